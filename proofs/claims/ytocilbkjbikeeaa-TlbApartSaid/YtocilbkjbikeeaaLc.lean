/- Walks of the helpers of TlbStays: turned, dropped, there. -/
import Derived.Test.YtocilbkjbikeeaaLb
import Derived.Test.YtocilbkjbikeeaaPb
set_option linter.unusedVariables false
namespace Go.Proofs.Ytocilbkjbikeeaa
open Go.RowKit Go.Cof

def encKp : Enc Kp := ⟨fun k => [.int .i64 k.x.a, .int .i64 k.x.p, .int .i64 k.x.f, .bool k.x.r, .bool k.x.w, .bool k.x.d, .bool k.g], 7, fun _ => rfl, by decide, fun x u hu => by simp at hu; rcases hu with rfl | rfl | rfl | rfl | rfl | rfl | rfl <;> rfl⟩
abbrev kpV (k : Kp) : Value := .agg #[.int .i64 k.x.a, .int .i64 k.x.p, .int .i64 k.x.f, .bool k.x.r, .bool k.x.w, .bool k.x.d, .bool k.g]
set_option maxHeartbeats 8000000 in
theorem turned_spec (A : Option Addr) (m c : Nat) (ks : List Kp) (t : Kp) (hm : m ≤ 1000) : Ctr Try.prog 12 [.slice A m c, kpV t] (fun h => rdS encKp h A m ks) [] (fun v L => ∃ A' c', v = .slice A' (rmK t.x.a t.x.p ks ++ [t]).length c' ∧ L = [own encKp A' (rmK t.x.a t.x.p ks ++ [t]).length c' (rmK t.x.a t.x.p ks ++ [t])]) := by
  refine Ctr.intro Try.func12 rfl rfl (by decide +kernel) fun F hpre => ?_
  have r1 : rdS encKp F.heap A m ks := hpre
  have hlen := r1.1
  repeat' (first | (refine XL_id ?_; first | refine XL_nil ?_ | (refine XG_box ?_; refine XL_box rfl (fun _ => rfl) (fun bx => ?_)) | (refine XL_op tt_ok rfl rfl ?_)) | (refine X_id ?_; first | refine X_seq ?_ | (refine X_regionN (by repeat' (first | exact .nil | apply NL.cons)) ?_) | refine X_block ?_) | (refine Y_id ?_; refine Y_then ?_))
  refine X_loopD4 [0, 3] (fun (i : Nat) (A2 : Option Addr) (c2 : Nat) (zs : List Kp) => [(6, .int .i64 i), (5, .slice A2 zs.length c2)]) (fun _ A2 c2 zs => [blk bx (encKp.enc t) 38, own encKp A2 zs.length c2 zs]) (fun i A2 c2 zs => i ≤ m ∧ zs = rmK t.x.a t.x.p (ks.take i)) (fun i _ _ _ => m - i) 0 none 0 [] rfl ⟨Nat.zero_le _, rfl⟩ (by (repeat' (first | exact trivial | refine And.intro rfl ?_)); done) (fun h hs => stars_only [1, 0] rfl h (stars_new (own_nil encKp Hp.nil) hs)) ?_
  intro i A2 c2 zs hi
  obtain ⟨hi, hz⟩ := hi
  have hzl : zs.length ≤ i := by
    rw [hz]
    exact Nat.le_trans (List.length_filter_le _ _) (List.length_take_le _ _)
  by_cases hlt : i < m
  · have hsn := take_snoc' ks i (by omega)
    by_cases hk : (Cof.get ks i).x.a = t.x.a ∧ (Cof.get ks i).x.p = t.x.p
    · have hkt : keyK t.x.a t.x.p (Cof.get ks i) = true := kB_iff.2 hk
      have hst : rmK t.x.a t.x.p (ks.take (i + 1)) = rmK t.x.a t.x.p (ks.take i) := by
        unfold rmK
        rw [hsn, List.filter_append, List.filter_cons_of_neg (by rw [hkt]; decide), List.filter_nil, List.append_nil]
      repeat' (first | (refine XL_id ?_; first | refine XL_nil ?_ | (refine XL_op tt_ok rfl rfl ?_; try (first | refine XL_int (wrap_i64 (by omega) (by omega)) ?_ | refine XL_dec_t (by omega) ?_))) | (refine XD_id ?_; first | (refine XD_thaw thaw ?_; refine XD_nil ?_) | (refine XD_id ?_; (first | (refine XD_uL rfl ?_; first | refine XD_s rfl rfl rfl (XV_load tt_ok rfl (blk_at 0 rfl hM) rfl rfl rfl) rfl ?_ | refine XD_s rfl rfl rfl (XV_el tt_ok rfl (rdS.le (by assumption) hFG) rfl (by omega) (by omega) rfl rfl rfl) rfl ?_) | (refine XD_uI rfl ?_; refine XD_s rfl rfl rfl (XV_idx tt_ok rfl rfl rfl rfl rfl (rdS.le (by assumption) hFG) (by omega) (by omega)) rfl ?_) | (refine XD_gL rfl ?_; first | refine XD_sy rfl rfl rfl rfl rfl (XV_load tt_ok rfl (blk_at 0 rfl hM) rfl rfl rfl) rfl ?_ | refine XD_sy rfl rfl rfl rfl rfl (XV_elf tt_ok rfl (rdS.le (by assumption) hFG) rfl (by omega) (by omega) rfl rfl rfl) rfl ?_) | (refine XD_gI rfl ?_; refine XD_sy rfl rfl rfl rfl rfl (XV_idx tt_ok rfl rfl rfl rfl rfl (rdS.le (by assumption) hFG) (by omega) (by omega)) rfl ?_) | (refine XD_u rfl rfl ?_; refine XD_s rfl rfl rfl (XV_op tt_ok rfl) rfl ?_) | (refine XD_g rfl rfl ?_; refine XD_sy rfl rfl rfl rfl rfl (XV_op tt_ok rfl) rfl ?_)); try (refine XD_dec_f (by omega) ?_))) | (refine X_id ?_; first | (refine X_drawS (id := 5) [0, 1, 2, 3, 4, 5, 6, 7, 8, 9, 10, 11, 12, 13, 14, 15, 16, 17, 18, 19, 20, 21] (fun _ => .s) 8 (by (repeat apply Split.blk); apply Split.keep; repeat' (exact Split.nil)) mixed (by decide +kernel) ?_; intro G hFG hM thaw; show XD _ _ _ _ _ _ [0, 1, 2, 3, 4, 5, 6, 7, 8, 9, 10, 11, 12, 13, 14, 15, 16, 17, 18, 19, 20, 21] _ _ _) | refine X_seq ?_ | (refine X_regionN (by repeat' (first | exact .nil | apply NL.cons)) ?_) | refine X_skip ?_ | refine X_block ?_ | refine X_cond_t rfl ?_ | refine X_cond_f rfl ?_) | (refine Y_id ?_; first | refine Y_then ?_ | refine Y_block_normal ?_))
      all_goals first
        | exact Y_again (i + 1, A2, c2, zs) fun _ _ hf hs => ⟨⟨by show i + 1 ≤ m; omega, by rw [hst]; exact hz⟩, by show m - (i + 1) < m - i; omega, hf.sub (by (repeat' (first | exact trivial | refine And.intro rfl ?_)); done), hs.imp fun h hs => stars_only [1, 0] rfl h hs⟩
        | (exfalso; omega)
        | skip
      
    · have hkt : keyK t.x.a t.x.p (Cof.get ks i) = false := by
        cases hk2 : keyK t.x.a t.x.p (Cof.get ks i) with
        | false => rfl
        | true => exact absurd (kB_iff.1 hk2) hk
      have hst : rmK t.x.a t.x.p (ks.take (i + 1)) = rmK t.x.a t.x.p (ks.take i) ++ [Cof.get ks i] := by
        unfold rmK
        rw [hsn, List.filter_append, List.filter_cons_of_pos (by rw [hkt]; decide), List.filter_nil]
      repeat' (first | (refine XL_id ?_; first | refine XL_nil ?_ | (refine XG_load ?_; refine XL_elW tt_ok rfl (by assumption) rfl (by omega) (by omega) rfl rfl rfl rfl ?_) | (refine XG_idx ?_; refine XL_idx tt_ok rfl rfl rfl rfl rfl (by assumption) (by omega) (by omega) rfl ?_) | (refine XG_call ?_; first | (refine XL_op tt_ok rfl rfl ?_) | (refine XL_app1 tt_ok 1 0 (Cof.get ks i) rfl rfl rfl rfl rfl rfl rfl rfl rfl rfl rfl (by show (_ : Nat) * 40 ≤ _; omega) (by omega) (fun _ _ => rfl) (fun A3 c3 => ?_))) | (refine XG_lit ?_; (refine XL_lit tt_ok rfl rfl rfl rfl rfl rfl rfl rfl rfl (fun _ => rfl) (fun b => ?_); refine XL_nB (by repeat' (first | exact .nil | apply NL.cons)) ?_)) | (refine XL_op tt_ok rfl rfl ?_; try (first | refine XL_int (wrap_i64 (by omega) (by omega)) ?_ | refine XL_dec_t (by omega) ?_))) | (refine XD_id ?_; first | (refine XD_thaw thaw ?_; refine XD_nil ?_) | refine XD_no rfl rfl rfl rfl rfl rfl ?_ | (refine XD_id ?_; (first | (refine XD_uL rfl ?_; first | refine XD_s rfl rfl rfl (XV_load tt_ok rfl (blk_at 0 rfl hM) rfl rfl rfl) rfl ?_ | refine XD_s rfl rfl rfl (XV_el tt_ok rfl (rdS.le (by assumption) hFG) rfl (by omega) (by omega) rfl rfl rfl) rfl ?_) | (refine XD_uI rfl ?_; refine XD_s rfl rfl rfl (XV_idx tt_ok rfl rfl rfl rfl rfl (rdS.le (by assumption) hFG) (by omega) (by omega)) rfl ?_) | (refine XD_gL rfl ?_; first | refine XD_sy rfl rfl rfl rfl rfl (XV_load tt_ok rfl (blk_at 0 rfl hM) rfl rfl rfl) rfl ?_ | refine XD_sy rfl rfl rfl rfl rfl (XV_elf tt_ok rfl (rdS.le (by assumption) hFG) rfl (by omega) (by omega) rfl rfl rfl) rfl ?_) | (refine XD_gI rfl ?_; refine XD_sy rfl rfl rfl rfl rfl (XV_idx tt_ok rfl rfl rfl rfl rfl (rdS.le (by assumption) hFG) (by omega) (by omega)) rfl ?_) | (refine XD_u rfl rfl ?_; refine XD_s rfl rfl rfl (XV_op tt_ok rfl) rfl ?_) | (refine XD_g rfl rfl ?_; refine XD_sy rfl rfl rfl rfl rfl (XV_op tt_ok rfl) rfl ?_)); try (first | refine XD_dec_t (by omega) ?_ | refine XD_dec (fun _ => ?_) (fun _ => ?_)))) | (refine X_id ?_; first | (refine X_drawS (id := 5) [0, 1, 2, 3, 4, 5, 6, 7, 8, 9, 10, 11, 12, 13, 14, 15, 16, 17, 18, 19, 20, 21] (fun _ => .s) 8 (by (repeat apply Split.blk); apply Split.keep; repeat' (exact Split.nil)) mixed (by decide +kernel) ?_; intro G hFG hM thaw; show XD _ _ _ _ _ _ [0, 1, 2, 3, 4, 5, 6, 7, 8, 9, 10, 11, 12, 13, 14, 15, 16, 17, 18, 19, 20, 21] _ _ _) | refine X_seq ?_ | (refine X_regionN (by repeat' (first | exact .nil | apply NL.cons)) ?_) | refine X_skip ?_ | refine X_block ?_ | refine X_cond_t rfl ?_) | (refine Y_id ?_; first | refine Y_then ?_ | refine Y_block_normal ?_))
      all_goals first
        | exact Y_again (i + 1, A3, c3, zs ++ [Cof.get ks i]) fun _ _ hf hs => ⟨⟨by show i + 1 ≤ m; omega, by rw [hst, ← hz]⟩, by show m - (i + 1) < m - i; omega, hf.sub (by simp only [List.length_append, List.length_singleton]; exact (by (repeat' (first | exact trivial | refine And.intro rfl ?_)); done)), hs.imp fun h hs => by have h1 := stars_only [2, 1] rfl h hs; simpa using h1⟩
        | (exfalso; omega)
        | skip
      
  · obtain rfl : i = m := by omega
    rw [List.take_of_length_le (by omega)] at hz
    subst hz
    repeat' (first | (refine XL_id ?_; first | refine XL_nil ?_ | (refine XG_load ?_; refine XL_loadW tt_ok 0 rfl rfl rfl rfl rfl rfl ?_) | (refine XG_call ?_; first | (refine XL_op tt_ok rfl rfl ?_) | (refine XL_app1 tt_ok 2 0 t rfl rfl rfl rfl rfl rfl rfl rfl rfl rfl rfl (by show (_ : Nat) * 40 ≤ _; omega) (by omega) (fun _ _ => rfl) (fun A3 c3 => ?_))) | (refine XG_lit ?_; (refine XL_lit tt_ok rfl rfl rfl rfl rfl rfl rfl rfl rfl (fun _ => rfl) (fun b => ?_); refine XL_nB (by repeat' (first | exact .nil | apply NL.cons)) ?_)) | (refine XL_op tt_ok rfl rfl ?_; try (refine XL_dec_f (by omega) ?_))) | (refine X_id ?_; first | refine X_seq ?_ | (refine X_regionN (by repeat' (first | exact .nil | apply NL.cons)) ?_) | refine X_ret ?_ | refine X_exit ?_ | refine X_cond_f rfl ?_) | (refine Y_id ?_; first | refine Y_then ?_ | refine Y_then_exit ?_ | refine Y_block_hit ?_))
    all_goals first
      | exact Y_ret1 rfl rfl (stars_fin [2] rfl fun h hs => (by have h1 := stars_own hs; simpa using h1)) ⟨A3, c3, by simp, rfl⟩
      | skip
    
set_option maxHeartbeats 8000000 in
theorem dropped_spec (A : Option Addr) (m c : Nat) (ks : List Kp) (a p : Int) (hm : m ≤ 1000) : Ctr Try.prog 15 [.slice A m c, .int .i64 a, .int .i64 p] (fun h => rdS encKp h A m ks) [] (fun v L => ∃ A' c', v = .slice A' m c' ∧ L = [own encKp A' m c' (ks.map (goneK a p))]) := by
  refine Ctr.intro Try.func15 rfl rfl (by decide +kernel) fun F hpre => ?_
  have r1 : rdS encKp F.heap A m ks := hpre
  have hlen := r1.1
  repeat' (first | (refine XL_id ?_; first | refine XL_nil ?_ | (refine XL_op tt_ok rfl rfl ?_)) | (refine X_id ?_; first | refine X_seq ?_ | (refine X_regionN (by repeat' (exact .nil)) ?_) | refine X_block ?_) | (refine Y_id ?_; refine Y_then ?_))
  refine X_loopD3 [0, 1, 2] (fun (i : Nat) (A2 : Option Addr) (c2 : Nat) => [(8, .int .i64 i), (7, .slice A2 i c2)]) (fun i A2 c2 => [own encKp A2 i c2 ((ks.take i).map (goneK a p))]) (fun i A2 c2 => i ≤ m) (fun i _ _ => m - i) 0 none 0 rfl (Nat.zero_le _) (by (repeat' (first | exact trivial | refine And.intro rfl ?_)); done) (fun h hs => stars_new (own_nil encKp Hp.nil) trivial) ?_
  intro i A2 c2 hi
  have hi : i ≤ m := hi
  by_cases hlt : i < m
  · have hsn := take_snoc' ks i (by omega)
    have hst : (ks.take (i + 1)).map (goneK a p) = (ks.take i).map (goneK a p) ++ [goneK a p (Cof.get ks i)] := by rw [hsn, List.map_append]; rfl
    by_cases hk : (Cof.get ks i).x.a = a ∧ (Cof.get ks i).x.p = p
    · have hg : goneK a p (Cof.get ks i) = { Cof.get ks i with g := true } := if_pos (kB_iff.2 hk)
      rw [hg] at hst
      repeat' (first | (refine XL_id ?_; first | refine XL_nil ?_ | refine XL_guard_yes rfl rfl rfl ?_ | (refine XG_load ?_; first | refine XL_loadW tt_ok 0 rfl rfl rfl rfl rfl rfl ?_ | refine XL_load tt_ok 0 rfl rfl rfl rfl rfl rfl ?_ | refine XL_elW tt_ok rfl (by assumption) rfl (by omega) (by omega) rfl rfl rfl rfl ?_) | (refine XG_idx ?_; refine XL_idx tt_ok rfl rfl rfl rfl rfl (by assumption) (by omega) (by omega) rfl ?_) | (refine XG_call ?_; first | (refine XL_op tt_ok rfl rfl ?_) | (refine XL_app1 tt_ok 2 0 ({ Cof.get ks i with g := true } : Kp) rfl rfl rfl rfl rfl rfl rfl rfl rfl rfl rfl (by show (_ : Nat) * 40 ≤ _; omega) (by omega) (fun _ _ => rfl) (fun A3 c3 => ?_))) | (refine XG_alloc ?_; (refine XL_alloc tt_ok rfl rfl (fun _ => rfl) (fun b => ?_); refine XL_nB (by repeat' (first | exact .nil | apply NL.cons)) ?_)) | (refine XG_lit ?_; (refine XL_lit tt_ok rfl rfl rfl rfl rfl rfl rfl rfl rfl (fun _ => rfl) (fun b => ?_); refine XL_nB (by repeat' (first | exact .nil | apply NL.cons)) ?_)) | (refine XG_store ?_; first | (refine XL_storeW tt_ok 0 rfl rfl rfl rfl rfl rfl rfl ?_; refine XL_nK 0 rfl (by repeat' (first | exact .nil | apply NL.cons)) ?_) | (refine XL_store tt_ok 0 rfl rfl rfl rfl rfl rfl rfl rfl ?_; refine XL_nK 0 rfl (by repeat' (first | exact .nil | apply NL.cons)) ?_)) | (refine XL_op tt_ok rfl rfl ?_; try (first | refine XL_int (wrap_i64 (by omega) (by omega)) ?_ | refine XL_dec_t (by omega) ?_))) | (refine X_id ?_; first | refine X_seq ?_ | (refine X_regionN (by repeat' (first | exact .nil | apply NL.cons)) ?_) | refine X_skip ?_ | refine X_block ?_ | refine X_cond_t rfl ?_) | (refine Y_id ?_; first | refine Y_then ?_ | refine Y_block_normal ?_))
      all_goals first
        | exact Y_again (i + 1, A3, c3) fun _ _ hf hs => ⟨by show i + 1 ≤ m; omega, by show m - (i + 1) < m - i; omega, hf.sub (by (repeat' (first | exact trivial | refine And.intro rfl ?_)); done), hs.imp fun h hs => by show stars [own encKp A3 (i + 1) c3 ((ks.take (i + 1)).map (goneK a p))] h; rw [hst]; exact stars_only [2] rfl h hs⟩
        | (exfalso; omega)
        | skip
      
    · have hg : goneK a p (Cof.get ks i) = Cof.get ks i := if_neg fun h => hk (kB_iff.1 h)
      rw [hg] at hst
      repeat' (first | (refine XL_id ?_; first | refine XL_nil ?_ | refine XL_guard_yes rfl rfl rfl ?_ | refine XL_guard_no rfl rfl rfl rfl rfl ?_ | (refine XG_load ?_; first | refine XL_loadW tt_ok 0 rfl rfl rfl rfl rfl rfl ?_ | refine XL_load tt_ok 0 rfl rfl rfl rfl rfl rfl ?_ | refine XL_elW tt_ok rfl (by assumption) rfl (by omega) (by omega) rfl rfl rfl rfl ?_) | (refine XG_idx ?_; refine XL_idx tt_ok rfl rfl rfl rfl rfl (by assumption) (by omega) (by omega) rfl ?_) | (refine XG_call ?_; first | (refine XL_op tt_ok rfl rfl ?_) | (refine XL_app1 tt_ok 2 0 (Cof.get ks i) rfl rfl rfl rfl rfl rfl rfl rfl rfl rfl rfl (by show (_ : Nat) * 40 ≤ _; omega) (by omega) (fun _ _ => rfl) (fun A3 c3 => ?_))) | (refine XG_alloc ?_; (refine XL_alloc tt_ok rfl rfl (fun _ => rfl) (fun b => ?_); refine XL_nB (by repeat' (first | exact .nil | apply NL.cons)) ?_)) | (refine XG_lit ?_; (refine XL_lit tt_ok rfl rfl rfl rfl rfl rfl rfl rfl rfl (fun _ => rfl) (fun b => ?_); refine XL_nB (by repeat' (first | exact .nil | apply NL.cons)) ?_)) | (refine XG_store ?_; (refine XL_storeW tt_ok 0 rfl rfl rfl rfl rfl rfl rfl ?_; refine XL_nK 0 rfl (by repeat' (first | exact .nil | apply NL.cons)) ?_)) | (refine XL_op tt_ok rfl rfl ?_; try (first | refine XL_int (wrap_i64 (by omega) (by omega)) ?_ | refine XL_dec_t (by omega) ?_ | refine XL_dec_f (by omega) ?_ | refine XL_dec (fun _ => ?_) (fun _ => ?_)))) | (refine X_id ?_; first | refine X_seq ?_ | (refine X_regionN (by repeat' (first | exact .nil | apply NL.cons)) ?_) | refine X_skip ?_ | refine X_block ?_ | refine X_cond_t rfl ?_ | refine X_cond_f rfl ?_) | (refine Y_id ?_; first | refine Y_then ?_ | refine Y_block_normal ?_))
      all_goals first
        | exact Y_again (i + 1, A3, c3) fun _ _ hf hs => ⟨by show i + 1 ≤ m; omega, by show m - (i + 1) < m - i; omega, hf.sub (by (repeat' (first | exact trivial | refine And.intro rfl ?_)); done), hs.imp fun h hs => by show stars [own encKp A3 (i + 1) c3 ((ks.take (i + 1)).map (goneK a p))] h; rw [hst]; exact stars_only [2] rfl h hs⟩
        | (exfalso; omega)
        | skip
      
  · obtain rfl : i = m := by omega
    rw [List.take_of_length_le (by omega)]
    repeat' (first | (refine XL_id ?_; first | refine XL_nil ?_ | (refine XL_op tt_ok rfl rfl ?_; try (refine XL_dec_f (by omega) ?_))) | (refine X_id ?_; first | refine X_seq ?_ | (refine X_regionN (by repeat' (first | exact .nil | apply NL.cons)) ?_) | refine X_ret ?_ | refine X_exit ?_ | refine X_cond_f rfl ?_) | (refine Y_id ?_; first | refine Y_then ?_ | refine Y_then_exit ?_ | refine Y_block_hit ?_))
    exact Y_ret1 rfl rfl (fun _ h => h) ⟨A2, c2, rfl, rfl⟩
end Go.Proofs.Ytocilbkjbikeeaa
