/- Walk of the reference's ring, on: Next. -/
import Derived.Test.YtgbcagcaaegciaaRa
set_option linter.unusedVariables false
namespace Go.Proofs.Ytgbcagcaaegciaa
open Go.RowKit Go.Cof

set_option maxHeartbeats 8000000 in
theorem rnext_spec (p : Nat) (ys : List Int) (pin : Int) (B : Option Addr) (bm bc : Nat) (bs : List Bool) (rest : Bool) :
    Ctr Try.prog 30 [ptr p, iV pin, .slice B bm bc, .bool rest] (fun h => rdS encB h B bm bs) [isRef p ys] (fun v L => ∃ x : Option Addr × Nat, v = .tuple #[iV (nextF (ansA bs rest) nxA pin ys []).1.1, iV ((nextF (ansA bs rest) nxA pin ys []).1.2.1 : Nat), .slice x.1 (nextF (ansA bs rest) nxA pin ys []).2.2.length x.2, iV (nextF (ansA bs rest) nxA pin ys []).1.2.2] ∧
      L = [own encN x.1 (nextF (ansA bs rest) nxA pin ys []).2.2.length x.2 (nextF (ansA bs rest) nxA pin ys []).2.2, isRef p (nextF (ansA bs rest) nxA pin ys []).2.1]) := by
  refine Ctr.intro Try.func30 rfl rfl (by decide +kernel) fun F hpre => ?_
  have r1 : rdS encB F.heap B bm bs := hpre
  have hbl := r1.1
  refine X_openp 0 rfl (fun _ h => h) fun x hok => ?_
  obtain ⟨A, c⟩ := x
  dsimp only
  have hlen := hok.len
  obtain ⟨R, hR⟩ : ∃ R, R = nextF (ansA bs rest) nxA pin ys [] := ⟨_, rfl⟩
  rw [← hR]
  have hRok := nextF_ok (ansA bs rest) nxA pin hok []
  rw [← hR] at hRok
  by_cases hm0 : ys.length = 0
  · have hyn : ys = [] := List.eq_nil_of_length_eq_zero (by omega)
    subst hyn
    rw [nextF_nil] at hR
    subst hR
    repeat' (first | (refine XL_id ?_; first | refine XL_nil ?_ | refine XL_guard_yes rfl rfl rfl ?_ | (refine XG_load ?_; refine XL_load tt_ok 0 rfl rfl rfl rfl rfl rfl ?_) | (refine XL_op tt_ok rfl rfl ?_; try (refine XL_dec_t (by omega) ?_))) | (refine X_id ?_; first | refine X_seq ?_ | (refine X_regionN (by repeat' (first | exact .nil | apply NL.cons)) ?_) | refine X_skip ?_ | refine X_ret ?_ | refine X_cond_t rfl ?_ | refine X_cond_f rfl ?_) | (refine Y_id ?_; first | refine Y_then ?_ | refine Y_then_ret ?_))
    all_goals first
      | exact Y_res4 rfl (.tmp rfl) (.tmp rfl) (.tmp rfl) (.tmp rfl) (fun _ hs => stars_new (own_nil encN _) (stars_fin [0, 0] rfl (isRef_mk hok rfl rfl) _ hs)) ⟨(none, 0), rfl, rfl⟩
      | (exfalso; omega)
      | skip
    
  · have hyn : ys ≠ [] := fun e => hm0 (by rw [e]; rfl)
    rw [nextF_some _ _ _ hyn] at hR
    obtain ⟨m, hm⟩ : ∃ m, m = ys.length := ⟨_, rfl⟩
    rw [← hm] at hR hlen hm0 ⊢
    repeat' (first | (refine XL_id ?_; first | refine XL_nil ?_ | refine XL_guard_yes rfl rfl rfl ?_ | (refine XG_load ?_; refine XL_load tt_ok 0 rfl rfl rfl rfl rfl rfl ?_) | (refine XL_op tt_ok rfl rfl ?_; try (first | refine XL_int (wrap_i64 (by omega) (by omega)) ?_ | refine XL_dec_f (by omega) ?_))) | (refine X_id ?_; first | refine X_seq ?_ | (refine X_regionN (by repeat' (first | exact .nil | apply NL.cons)) ?_) | refine X_skip ?_ | refine X_block ?_ | refine X_cond_f rfl ?_) | (refine Y_id ?_; refine Y_then ?_))
    refine X_loopD4 [0, 1, 2, 3, 13] (fun (k : Nat) (zs s : List Int) (x : (Option Addr × Nat) × Option Addr × Nat) => [(14, .int .i64 ((k : Int) + 1)), (12, .slice x.2.1 s.length x.2.2)]) (fun k zs s x => [refB p x.1.1 m x.1.2, own encN x.1.1 m x.1.2 zs, own encN x.2.1 s.length x.2.2 s]) (fun k zs s x => k ≤ 2 * m + 1 ∧ zs.length = m ∧ s.length ≤ k ∧ YOk zs ∧ R = nextGo (ansA bs rest) nxA pin (2 * m + 1 - k) k zs s) (fun k _ _ _ => 2 * m + 1 - k) 0 ys [] ((A, c), none, 0) rfl ⟨Nat.zero_le _, hm.symm, Nat.le_refl _, hok, hR⟩ (by (repeat' (first | exact trivial | refine And.intro rfl ?_)); done) (fun h hs => stars_perm (.trans (.swap _ _ _) (.cons _ (.swap _ _ _))) (stars_new (own_nil encN _) hs)) ?_
    intro k zs s x hi
    obtain ⟨⟨A1, c1⟩, A2, c2⟩ := x
    obtain ⟨hk, hzl, hsl, hzok, hRk⟩ := hi
    dsimp only
    by_cases hlt : k ≤ 2 * m
    · obtain ⟨y, t, rfl⟩ : ∃ y t, zs = y :: t := by cases zs with | nil => exact absurd hzl.symm hm0 | cons y t => exact ⟨y, t, rfl⟩
      have htl : m = t.length + 1 := by rw [← hzl, List.length_cons]
      have htn := turn_spec p A1 m c1 y t htl hlen
      have hn : 2 * m + 1 - k = (2 * m + 1 - (k + 1)) + 1 := by omega
      rw [hn] at hRk
      have hzp : (t ++ [y]).Perm (y :: t) := List.perm_append_comm
      have hzok2 : YOk (t ++ [y]) := ⟨hzp.nodup_iff.2 hzok.nodup, by rw [hzp.length_eq]; exact hzok.len⟩
      have hz2 : (t ++ [y]).length = m := by rw [hzp.length_eq]; exact hzl
      refine X_fact 1 rfl (fun _ o => own_some o (by omega)) fun hq2 => ?_
      obtain ⟨bq, rfl⟩ := hq2
      by_cases hp : y = pin
      · have hRn : R = nextGo (ansA bs rest) nxA pin (2 * m + 1 - (k + 1)) (k + 1) (t ++ [y]) s := by rw [hRk, hp, nextGo_pin]
        repeat' (first | (refine XL_id ?_; first | refine XL_nil ?_ | refine XL_ld (i := 0) (f := 0) tt_ok 1 rfl rfl rfl (by omega) rfl rfl rfl rfl ?_ | (refine XG_load ?_; refine XL_load tt_ok 0 rfl rfl rfl rfl rfl rfl ?_) | (refine XG_idx ?_; refine XL_idxl tt_ok rfl rfl rfl rfl rfl (by omega) (by omega) rfl ?_) | (refine XG_call ?_; (refine XL_callK [0, 0] htn rfl rfl (fun _ => rfl) (fun _ _ _ => trivial) (fun u L hv => ?_); obtain ⟨x3, rfl, rfl⟩ := hv)) | (refine XL_op tt_ok rfl rfl ?_; refine XL_dec_f (fun h => h hp) ?_) | (refine XL_op tt_ok rfl rfl ?_; try (first | refine XL_int (wrap_i64 (by omega) (by omega)) ?_ | refine XL_dec_t (by omega) ?_))) | (refine X_id ?_; first | refine X_seq ?_ | (refine X_regionN (by repeat' (first | exact .nil | apply NL.cons)) ?_) | refine X_skip ?_ | refine X_block ?_ | refine X_cond_t rfl ?_ | refine X_cond_f rfl ?_) | (refine Y_id ?_; first | refine Y_then ?_ | refine Y_block_normal ?_))
        all_goals first
          | exact Y_again (k + 1, t ++ [y], s, (x3, A2, c2)) fun _ _ hf hs => ⟨⟨by show k + 1 ≤ _; omega, hz2, by show s.length ≤ k + 1; omega, hzok2, hRn⟩, by show 2 * m + 1 - (k + 1) < 2 * m + 1 - k; omega, hf.sub (by (repeat' (first | exact trivial | refine And.intro rfl ?_)); done), hs⟩
          | (exfalso; omega)
          | skip
        
      · cases ha : ansA bs rest s y with
        | true =>
          have hRn : R = nextGo (ansA bs rest) nxA pin (2 * m + 1 - (k + 1)) (k + 1) (t ++ [y]) (s ++ [y]) := by rw [hRk, nextGo_used _ _ _ hp ha]; rfl
          unfold ansA at ha
          by_cases hb : s.length < bs.length
          · rw [if_pos hb] at ha
            repeat' (first | (refine XL_id ?_; first | refine XL_head (congrArg Value.bool ha) ?_ | refine XL_nil ?_ | refine XL_ld (i := 0) (f := 0) tt_ok 1 rfl rfl rfl (by omega) rfl rfl rfl rfl ?_ | (refine XG_load ?_; first | refine XL_load tt_ok 0 rfl rfl rfl rfl rfl rfl ?_ | refine XL_el tt_ok rfl (by assumption) rfl (by omega) (by omega) rfl rfl rfl rfl ?_) | (refine XG_idx ?_; first | refine XL_idx tt_ok rfl rfl rfl rfl rfl (by assumption) (by omega) (by omega) rfl ?_ | refine XL_idxl tt_ok rfl rfl rfl rfl rfl (by omega) (by omega) rfl ?_) | (refine XG_call ?_; first | (refine XL_op tt_ok rfl rfl ?_) | (refine XL_callK [1, 1] htn rfl rfl (fun _ => rfl) (fun _ _ _ => trivial) (fun u L hv => ?_); obtain ⟨x3, rfl, rfl⟩ := hv) | (refine XL_app1 tt_ok 3 0 y rfl rfl rfl rfl rfl rfl rfl rfl rfl rfl rfl (by show (_ : Nat) * 8 ≤ _; omega) (by omega) (fun _ _ => rfl) (fun A3 c3 => ?_))) | (refine XG_lit ?_; (refine XL_lit tt_ok rfl rfl rfl rfl rfl rfl rfl rfl rfl (fun _ => rfl) (fun b => ?_); refine XL_nB (by repeat' (first | exact .nil | apply NL.cons)) ?_)) | (refine XL_op tt_ok rfl rfl ?_; refine XL_dec_t hp ?_) | (refine XL_op tt_ok rfl rfl ?_; try (first | refine XL_int (wrap_i64 (by omega) (by omega)) ?_ | refine XL_dec_t (by omega) ?_))) | (refine X_id ?_; first | refine X_seq ?_ | (refine X_regionN (by repeat' (first | exact .nil | apply NL.cons)) ?_) | refine X_skip ?_ | refine X_block ?_ | refine X_cond_t rfl ?_ | refine X_cond_f rfl ?_) | (refine Y_id ?_; first | refine Y_then ?_ | refine Y_block_normal ?_))
            all_goals first
              | exact Y_again (k + 1, t ++ [y], s ++ [y], (x3, A3, c3)) fun _ _ hf hs => ⟨⟨by show k + 1 ≤ _; omega, hz2, by show (s ++ [y]).length ≤ k + 1; rw [List.length_append]; simp; omega, hzok2, hRn⟩, by show 2 * m + 1 - (k + 1) < 2 * m + 1 - k; omega, hf.sub (by simp only [List.length_append, List.length_singleton]; exact (by (repeat' (first | exact trivial | refine And.intro rfl ?_)); done)), hs.imp fun h hs => by have h1 := stars_only [0, 0, 1] rfl h hs; simpa using h1⟩
              | (exfalso; omega)
              | skip
            
          · rw [if_neg hb] at ha
            repeat' (first | (refine XL_id ?_; first | refine XL_head (congrArg Value.bool ha) ?_ | refine XL_nil ?_ | refine XL_ld (i := 0) (f := 0) tt_ok 1 rfl rfl rfl (by omega) rfl rfl rfl rfl ?_ | (refine XG_load ?_; refine XL_load tt_ok 0 rfl rfl rfl rfl rfl rfl ?_) | (refine XG_idx ?_; refine XL_idxl tt_ok rfl rfl rfl rfl rfl (by omega) (by omega) rfl ?_) | (refine XG_call ?_; first | (refine XL_op tt_ok rfl rfl ?_) | (refine XL_callK [1, 1] htn rfl rfl (fun _ => rfl) (fun _ _ _ => trivial) (fun u L hv => ?_); obtain ⟨x3, rfl, rfl⟩ := hv) | (refine XL_app1 tt_ok 3 0 y rfl rfl rfl rfl rfl rfl rfl rfl rfl rfl rfl (by show (_ : Nat) * 8 ≤ _; omega) (by omega) (fun _ _ => rfl) (fun A3 c3 => ?_))) | (refine XG_lit ?_; (refine XL_lit tt_ok rfl rfl rfl rfl rfl rfl rfl rfl rfl (fun _ => rfl) (fun b => ?_); refine XL_nB (by repeat' (first | exact .nil | apply NL.cons)) ?_)) | (refine XL_op tt_ok rfl rfl ?_; refine XL_dec_t hp ?_) | (refine XL_op tt_ok rfl rfl ?_; try (first | refine XL_int (wrap_i64 (by omega) (by omega)) ?_ | refine XL_dec_t (by omega) ?_ | refine XL_dec_f (by omega) ?_))) | (refine X_id ?_; first | refine X_seq ?_ | (refine X_regionN (by repeat' (first | exact .nil | apply NL.cons)) ?_) | refine X_skip ?_ | refine X_block ?_ | refine X_cond_t rfl ?_ | refine X_cond_f rfl ?_) | (refine Y_id ?_; first | refine Y_then ?_ | refine Y_block_normal ?_))
            all_goals first
              | exact Y_again (k + 1, t ++ [y], s ++ [y], (x3, A3, c3)) fun _ _ hf hs => ⟨⟨by show k + 1 ≤ _; omega, hz2, by show (s ++ [y]).length ≤ k + 1; rw [List.length_append]; simp; omega, hzok2, hRn⟩, by show 2 * m + 1 - (k + 1) < 2 * m + 1 - k; omega, hf.sub (by simp only [List.length_append, List.length_singleton]; exact (by (repeat' (first | exact trivial | refine And.intro rfl ?_)); done)), hs.imp fun h hs => by have h1 := stars_only [0, 0, 1] rfl h hs; simpa using h1⟩
              | (exfalso; omega)
              | skip
            
        | false =>
          have hRn : R = ((y, k + 1, 0), t ++ [y], s ++ [y]) := by rw [hRk, nextGo_found _ _ _ hp ha]; rfl
          unfold ansA at ha
          clear hRk
          subst hRn
          have hlsy : (s ++ [y]).length = s.length + 1 := by rw [List.length_append]; rfl
          dsimp only
          rw [hlsy]
          by_cases hb : s.length < bs.length
          · rw [if_pos hb] at ha
            repeat' (first | (refine XL_id ?_; first | refine XL_head (congrArg Value.bool ha) ?_ | refine XL_nil ?_ | refine XL_ld (i := 0) (f := 0) tt_ok 1 rfl rfl rfl (by omega) rfl rfl rfl rfl ?_ | (refine XG_load ?_; first | refine XL_load tt_ok 0 rfl rfl rfl rfl rfl rfl ?_ | refine XL_el tt_ok rfl (by assumption) rfl (by omega) (by omega) rfl rfl rfl rfl ?_) | (refine XG_idx ?_; first | refine XL_idx tt_ok rfl rfl rfl rfl rfl (by assumption) (by omega) (by omega) rfl ?_ | refine XL_idxl tt_ok rfl rfl rfl rfl rfl (by omega) (by omega) rfl ?_) | (refine XG_call ?_; first | (refine XL_op tt_ok rfl rfl ?_) | (refine XL_callK [1, 1] htn rfl rfl (fun _ => rfl) (fun _ _ _ => trivial) (fun u L hv => ?_); obtain ⟨x3, rfl, rfl⟩ := hv) | (refine XL_app1 tt_ok 3 0 y rfl rfl rfl rfl rfl rfl rfl rfl rfl rfl rfl (by show (_ : Nat) * 8 ≤ _; omega) (by omega) (fun _ _ => rfl) (fun A3 c3 => ?_))) | (refine XG_lit ?_; (refine XL_lit tt_ok rfl rfl rfl rfl rfl rfl rfl rfl rfl (fun _ => rfl) (fun b => ?_); refine XL_nB (by repeat' (first | exact .nil | apply NL.cons)) ?_)) | (refine XL_op tt_ok rfl rfl ?_; refine XL_dec_t hp ?_) | (refine XL_op tt_ok rfl rfl ?_; try (refine XL_dec_t (by omega) ?_))) | (refine X_id ?_; first | refine X_seq ?_ | (refine X_regionN (by repeat' (first | exact .nil | apply NL.cons)) ?_) | refine X_skip ?_ | refine X_ret ?_ | refine X_block ?_ | refine X_cond_t rfl ?_) | (refine Y_id ?_; first | refine Y_then ?_ | refine Y_then_ret ?_ | refine Y_block_ret ?_))
            all_goals first
              | exact Y_res4 rfl (.tmp rfl) (.tmp rfl) (.tmp rfl) (.tmp rfl) (stars_two [3] [0, 0] rfl rfl (fun h hs => stars_own hs) (isRef_mk hzok2 hz2.symm rfl)) ⟨(A3, c3), rfl, rfl⟩
              | (exfalso; omega)
              | skip
            
          · rw [if_neg hb] at ha
            repeat' (first | (refine XL_id ?_; first | refine XL_head (congrArg Value.bool ha) ?_ | refine XL_nil ?_ | refine XL_ld (i := 0) (f := 0) tt_ok 1 rfl rfl rfl (by omega) rfl rfl rfl rfl ?_ | (refine XG_load ?_; refine XL_load tt_ok 0 rfl rfl rfl rfl rfl rfl ?_) | (refine XG_idx ?_; refine XL_idxl tt_ok rfl rfl rfl rfl rfl (by omega) (by omega) rfl ?_) | (refine XG_call ?_; first | (refine XL_op tt_ok rfl rfl ?_) | (refine XL_callK [1, 1] htn rfl rfl (fun _ => rfl) (fun _ _ _ => trivial) (fun u L hv => ?_); obtain ⟨x3, rfl, rfl⟩ := hv) | (refine XL_app1 tt_ok 3 0 y rfl rfl rfl rfl rfl rfl rfl rfl rfl rfl rfl (by show (_ : Nat) * 8 ≤ _; omega) (by omega) (fun _ _ => rfl) (fun A3 c3 => ?_))) | (refine XG_lit ?_; (refine XL_lit tt_ok rfl rfl rfl rfl rfl rfl rfl rfl rfl (fun _ => rfl) (fun b => ?_); refine XL_nB (by repeat' (first | exact .nil | apply NL.cons)) ?_)) | (refine XL_op tt_ok rfl rfl ?_; refine XL_dec_t hp ?_) | (refine XL_op tt_ok rfl rfl ?_; try (first | refine XL_dec_t (by omega) ?_ | refine XL_dec_f (by omega) ?_))) | (refine X_id ?_; first | refine X_seq ?_ | (refine X_regionN (by repeat' (first | exact .nil | apply NL.cons)) ?_) | refine X_skip ?_ | refine X_ret ?_ | refine X_block ?_ | refine X_cond_t rfl ?_ | refine X_cond_f rfl ?_) | (refine Y_id ?_; first | refine Y_then ?_ | refine Y_then_ret ?_ | refine Y_block_ret ?_))
            all_goals first
              | exact Y_res4 rfl (.tmp rfl) (.tmp rfl) (.tmp rfl) (.tmp rfl) (stars_two [3] [0, 0] rfl rfl (fun h hs => stars_own hs) (isRef_mk hzok2 hz2.symm rfl)) ⟨(A3, c3), rfl, rfl⟩
              | (exfalso; omega)
              | skip
            
    · obtain rfl : k = 2 * m + 1 := by omega
      rw [Nat.sub_self] at hRk
      have hRn : R = ((0, 2 * m + 1, 190), zs, s) := hRk
      clear hRk
      subst hRn
      dsimp only
      repeat' (first | (refine XL_id ?_; first | refine XL_nil ?_ | (refine XL_op tt_ok rfl rfl ?_; try (refine XL_dec_f (by omega) ?_))) | (refine X_id ?_; first | refine X_seq ?_ | (refine X_regionN (by repeat' (first | exact .nil | apply NL.cons)) ?_) | refine X_ret ?_ | refine X_exit ?_ | refine X_cond_f rfl ?_) | (refine Y_id ?_; first | refine Y_then ?_ | refine Y_then_exit ?_ | refine Y_block_hit ?_))
      all_goals first
        | exact Y_res4 rfl (.tmp rfl) (.tmp rfl) (.tmp rfl) (.tmp rfl) (stars_two [2] [0, 0] rfl rfl (fun h hs => stars_own hs) (isRef_mk hzok hzl.symm rfl)) ⟨(A2, c2), rfl, rfl⟩
        | (exfalso; omega)
        | skip
      
end Go.Proofs.Ytgbcagcaaegciaa
