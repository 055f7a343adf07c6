/- The law TlbStays, walked. -/
import Derived.Test.YtocilbkjbikeeaaLd
set_option linter.unusedVariables false
namespace Go.Proofs.Ytocilbkjbikeeaa
open Go.RowKit Go.Cof

/-- What a step brings the translation to. -/
def bring (y : Tr) : Tr := ⟨y.a % 3, y.p % 6, y.f % 4096, y.r, y.w, y.d⟩
theorem bring_ask (y : Tr) : askE (y.a % 3) (y.p % 6) = 0 := by unfold askE; rw [if_pos (by omega)]
theorem bring_fill (y : Tr) : fillE (bring y) = 0 := by
  unfold fillE
  rw [show askE (bring y).a (bring y).p = 0 from bring_ask y, if_pos rfl, if_pos (by show 0 ≤ y.f % 4096 ∧ y.f % 4096 < 4096; omega)]
theorem turn_reverse (t : Kp) (ks : List Kp) : (rmK t.x.a t.x.p ks ++ [t]).reverse = t :: rmK t.x.a t.x.p ks.reverse := by
  unfold rmK
  rw [List.reverse_append, List.filter_reverse]
  rfl
theorem rmK_length (a p : Int) (ks : List Kp) : (rmK a p ks).length ≤ ks.length := List.length_filter_le _ _
theorem stay_find {n : Int} {ys : List Tr} {ks : List Kp} {x y : Tr} (hok : TOk n ys) (hst : Stay n ys ks.reverse) (ha : askE x.a x.p = 0) (hf : ys.find? (kB x.a x.p) = some y) :
    findT ys x.a x.p = y :: rm y.a y.p ys ∧ Stay n (y :: rm y.a y.p ys) (rmK y.a y.p ks ++ [(⟨y, false⟩ : Kp)]).reverse := by
  have hm := find_mem hf
  have hk := kB_iff.1 hm.2
  have hlt := rm_lt hf
  rw [← hk.1, ← hk.2] at ha hf hlt ⊢
  refine ⟨by unfold findT; rw [if_pos ha, hf], ?_⟩
  rw [turn_reverse (⟨y, false⟩ : Kp)]
  exact hst.find hok.n1 hok.len y ha hlt
theorem stay_fill {n : Int} {ys : List Tr} {ks : List Kp} {x : Tr} (hok : TOk n ys) (hst : Stay n ys ks.reverse) (ha : askE x.a x.p = 0) (hf : fillE x = 0) : Stay n (fillT n ys x) (rmK x.a x.p ks ++ [(⟨x, false⟩ : Kp)]).reverse := by
  rw [turn_reverse (⟨x, false⟩ : Kp)]
  exact hst.fill hok.n1 x ha (by unfold fillT; rw [if_pos hf])
theorem stay_drop {n : Int} {ys : List Tr} {ks : List Kp} {a p : Int} (hst : Stay n ys ks.reverse) (ha : askE a p = 0) : Stay n (dropT ys a p) (ks.map (goneK a p)).reverse := by
  unfold dropT
  rw [if_pos ha, ← List.map_reverse]
  exact hst.drop a p
theorem dropped_is (A : Option Addr) (m c : Nat) (ks : List Kp) (a p : Int) (hm : m ≤ 1000) (hl : ks.length = m) : Ctr Try.prog 15 [.slice A m c, .int .i64 a, .int .i64 p] (fun h => rdS encKp h A m ks) [] (fun v L => ∃ A' c', v = .slice A' (ks.map (goneK a p)).length c' ∧ L = [own encKp A' (ks.map (goneK a p)).length c' (ks.map (goneK a p))]) := by
  rw [List.length_map, hl]
  exact dropped_spec A m c ks a p hm
set_option maxRecDepth 100000 in
set_option maxHeartbeats 16000000 in
theorem tlbStays_walk (n0 : Int) (A : Option Addr) (m c : Nat) (l : List Dd) (hn : -9223372036854775808 ≤ n0 ∧ n0 ≤ 9223372036854775807) (hm : m ≤ 9223372036854775807) (hl : ∀ x ∈ l, x.In) :
    FnC Try.prog 3 [.int .i64 n0, .slice A m c] (fun h => rdS encDd h A m l) (.bool true) := by
  have hk0 := kind_spec n0 8 hn.1 hn.2 (by decide) (by decide)
  obtain ⟨n, hnn⟩ : ∃ n, n = 1 + n0 % 8 := ⟨_, rfl⟩
  have hn1 : 1 ≤ n := by omega
  have hn8 : n ≤ 8 := by omega
  have hnew := new_ok n hn1 (by omega)
  refine Ctr.intro Try.func3 rfl rfl (by decide +kernel) fun F hpre => ?_
  have r1 : rdS encDd F.heap A m l := hpre
  have hlen := r1.1
  repeat' (first | (refine XL_id ?_; first | refine XL_nil ?_ | (refine XG_call ?_; first | refine XL_fn works_spec rfl rfl (fun _ _ _ => trivial) ?_ | refine XL_fn hk0 rfl rfl (fun _ _ _ => trivial) ?_ | (refine XL_callK [] hnew rfl rfl (fun _ => rfl) (fun _ _ _ => trivial) (fun u L hv => ?_); obtain ⟨p, rfl, rfl⟩ := hv)) | (refine XL_op tt_ok rfl rfl ?_; refine XL_int (show _ = n from (wrap_i64 (by omega) (by omega)).trans hnn.symm) ?_) | (refine XL_op tt_ok rfl rfl ?_; try (refine XL_dec_f (by omega) ?_))) | (refine X_id ?_; first | refine X_seq ?_ | (refine X_regionN (by repeat' (first | exact .nil | apply NL.cons)) ?_) | refine X_skip ?_ | refine X_block ?_ | refine X_cond_f rfl ?_) | (refine Y_id ?_; refine Y_then ?_))
  refine X_loopD4 [0, 1, 5] (fun (i : Nat) (ys : List Tr) (x : Option Addr × Nat) (ks : List Kp) => [(8, .int .i64 i), (7, .slice x.1 ks.length x.2)]) (fun _ ys x ks => [isTlb p n ys, own encKp x.1 ks.length x.2 ks]) (fun i ys x ks => i ≤ m ∧ TOk n ys ∧ Stay n ys ks.reverse ∧ ks.length ≤ i) (fun i _ _ _ => m - i) 0 [] (none, 0) [] rfl ⟨Nat.zero_le _, TOk.nil hn1 (by omega), Stay.nil n, Nat.le_refl _⟩ (by (repeat' (first | exact trivial | refine And.intro rfl ?_)); done) (fun h hs => stars_only [1, 0] rfl h (stars_new (own_nil encKp Hp.nil) hs)) ?_
  intro i ys x ks hi
  obtain ⟨A1, c1⟩ := x
  obtain ⟨hi, hok, hst, hkl⟩ := hi
  by_cases hlt : i < m ∧ i < 60
  · have hx := hl _ (get_mem' (l := l) (i := (i : Int)) (by omega) (by omega))
    have hq := hx.a; have hq2 := hx.p; have hq3 := hx.f; have hq4 := hx.k
    have hka := kind_spec (Cof.get l (i : Int)).x.a 3 hq.1 hq.2 (by decide) (by decide)
    have hkp := kind_spec (Cof.get l (i : Int)).x.p 6 hq2.1 hq2.2 (by decide) (by decide)
    have hkf := kind_spec (Cof.get l (i : Int)).x.f 4096 hq3.1 hq3.2 (by decide) (by decide)
    have hkk := kind_spec (Cof.get l (i : Int)).k 3 hq4.1 hq4.2 (by decide) (by decide)
    have hask := bring_ask (Cof.get l (i : Int)).x
    have hfe := bring_fill (Cof.get l (i : Int)).x
    have hk3 : (Cof.get l (i : Int)).k % 3 = 0 ∨ (Cof.get l (i : Int)).k % 3 = 1 ∨ (Cof.get l (i : Int)).k % 3 = 2 := by omega
    repeat' (first | (refine XL_id ?_; first | refine XL_nil ?_ | refine XL_guard_yes rfl rfl rfl ?_ | (refine XG_load ?_; first | refine XL_loadW tt_ok 0 rfl rfl rfl rfl rfl rfl ?_ | refine XL_load tt_ok 0 rfl rfl rfl rfl rfl rfl ?_ | refine XL_el tt_ok rfl (by assumption) rfl (by omega) (by omega) rfl rfl rfl rfl ?_ | refine XL_elf tt_ok rfl (by assumption) rfl (by omega) (by omega) rfl rfl rfl rfl ?_) | (refine XG_idx ?_; refine XL_idx tt_ok rfl rfl rfl rfl rfl (by assumption) (by omega) (by omega) rfl ?_) | (refine XG_call ?_; first | (refine XL_op tt_ok rfl rfl ?_) | refine XL_fn hka rfl rfl (fun _ _ _ => trivial) ?_ | refine XL_fn hkp rfl rfl (fun _ _ _ => trivial) ?_ | refine XL_fn hkf rfl rfl (fun _ _ _ => trivial) ?_ | refine XL_fn hkk rfl rfl (fun _ _ _ => trivial) ?_ | refine XL_callE [0] (there_spec p n j.1 j.2.1.1 j.2.2.length j.2.1.2 j.2.2 (by omega) hj.1 hj.2.1) rfl rfl rfl (fun g hg hL => rd_at 0 rfl hL) ?_) | (refine XG_alloc ?_; (refine XL_alloc tt_ok rfl rfl (fun _ => rfl) (fun b => ?_); refine XL_nB (by repeat' (first | exact .nil | apply NL.cons)) ?_)) | (refine XG_store ?_; first | (refine XL_storeW tt_ok 0 rfl rfl rfl rfl rfl rfl rfl ?_; refine XL_nK 0 rfl (by repeat' (first | exact .nil | apply NL.cons)) ?_) | (refine XL_store tt_ok 0 rfl rfl rfl rfl rfl rfl rfl rfl ?_; refine XL_nK 0 rfl (by repeat' (first | exact .nil | apply NL.cons)) ?_)) | (refine XL_op tt_ok rfl rfl ?_; try (first | refine XL_int (wrap_i64 (by omega) (by omega)) ?_ | refine XL_dec_t (by omega) ?_ | refine XL_dec (fun _ => ?_) (fun _ => ?_)))) | (refine X_id ?_; first | refine X_cutD (c := .block 2 _) [0, 1, 5, 8] (fun (j : List Tr × (Option Addr × Nat) × List Kp) => [(7, .slice j.2.1.1 j.2.2.length j.2.1.2)]) (fun j => [isTlb p n j.1, own encKp j.2.1.1 j.2.2.length j.2.1.2 j.2.2]) (fun j => TOk n j.1 ∧ Stay n j.1 j.2.2.reverse ∧ j.2.2.length ≤ i + 1) rfl (X_block ?_) (fun j hj => ?_) | refine X_seq ?_ | (refine X_regionN (by repeat' (first | exact .nil | apply NL.cons)) ?_) | refine X_skip ?_ | refine X_block ?_ | refine X_cond_t rfl ?_ | refine X_cond_f rfl ?_) | (refine Y_id ?_; first | refine Y_then ?_ | refine Y_block_normal ?_))
    · have hfi := find_is p n ys ((Cof.get l (i : Int)).x.a % 3) ((Cof.get l (i : Int)).x.p % 6)
      unfold peekR at hfi
      rw [if_pos hask] at hfi
      cases hf0 : ys.find? (kB ((Cof.get l (i : Int)).x.a % 3) ((Cof.get l (i : Int)).x.p % 6)) with
      | none =>
        have e0 : findT ys ((Cof.get l (i : Int)).x.a % 3) ((Cof.get l (i : Int)).x.p % 6) = ys := by unfold findT; rw [if_pos hask, hf0]
        rw [hf0, e0] at hfi
        dsimp only at hfi
        repeat' (first | (refine XL_id ?_; first | refine XL_nil ?_ | (refine XG_call ?_; refine XL_callE [1] hfi rfl rfl rfl (fun _ _ _ => trivial) ?_) | (refine XG_alloc ?_; (refine XL_alloc tt_ok rfl rfl (fun _ => rfl) (fun b => ?_); refine XL_nB (by repeat' (first | exact .nil | apply NL.cons)) ?_)) | (refine XG_store ?_; (refine XL_storeW tt_ok 0 rfl rfl rfl rfl rfl rfl rfl ?_; refine XL_nK 0 rfl (by repeat' (first | exact .nil | apply NL.cons)) ?_)) | (refine XL_op tt_ok rfl rfl ?_; try (first | refine XL_dec_t (by omega) ?_ | refine XL_dec_f (by omega) ?_ | refine XL_dec (fun _ => ?_) (fun _ => ?_)))) | (refine X_id ?_; first | refine X_seq ?_ | (refine X_regionN (by repeat' (first | exact .nil | apply NL.cons)) ?_) | refine X_skip ?_ | refine X_ret ?_ | refine X_cond_t rfl ?_ | refine X_cond_f rfl ?_) | (refine Y_id ?_; first | refine Y_then ?_ | refine Y_then_ret ?_ | refine Y_block_normal ?_ | refine Y_block_ret ?_))
        all_goals first
          | exact Y_again (ys, (A1, c1), ks) fun _ _ hf hs => ⟨⟨hok, hst, by show ks.length ≤ i + 1; omega⟩, hf.sub (by (repeat' (first | exact trivial | refine And.intro rfl ?_)); done), hs.imp fun h hs => stars_only [1, 3] rfl h hs⟩
          | exact Y_again (ys, (A1, c1), ks) fun _ _ hf hs => ⟨⟨hok, hst, by show ks.length ≤ i + 1; omega⟩, hf.sub (by (repeat' (first | exact trivial | refine And.intro rfl ?_)); done), hs.imp fun h hs => stars_only [1, 2] rfl h hs⟩
          | exact Y_again (ys, (A1, c1), ks) fun _ _ hf hs => ⟨⟨hok, hst, by show ks.length ≤ i + 1; omega⟩, hf.sub (by (repeat' (fail)); done), hs.imp fun h hs => stars_only [0, 2] rfl h hs⟩
          | (exfalso; rename_i h9; exact absurd rfl h9)
          | (exfalso; omega)
          | skip
        
      | some y0 =>
        have hsf := stay_find (x := bring (Cof.get l (i : Int)).x) hok hst hask hf0
        have e0 : findT ys ((Cof.get l (i : Int)).x.a % 3) ((Cof.get l (i : Int)).x.p % 6) = y0 :: rm y0.a y0.p ys := hsf.1
        have hok2 := hok.findT ((Cof.get l (i : Int)).x.a % 3) ((Cof.get l (i : Int)).x.p % 6)
        rw [e0] at hok2
        rw [hf0, e0] at hfi
        dsimp only at hfi
        have htn := turned_spec A1 ks.length c1 ks ⟨y0, false⟩ (by omega)
        have hrl := rmK_length y0.a y0.p ks
        repeat' (first | (refine XL_id ?_; first | refine XL_nil ?_ | (refine XG_load ?_; refine XL_loadW tt_ok 0 rfl rfl rfl rfl rfl rfl ?_) | (refine XG_build ?_; (refine XL_build tt_ok rfl rfl rfl rfl rfl rfl rfl ?_; refine XL_aggN (by repeat' (first | exact .nil | apply NL.cons)) ?_)) | (refine XG_call ?_; first | refine XL_callE [1] hfi rfl rfl rfl (fun _ _ _ => trivial) ?_ | (refine XL_callK [] htn rfl rfl (fun _ => rfl) (fun g hg hL => rd_at 3 rfl hL) (fun u L hv => ?_); obtain ⟨A2, c2, rfl, rfl⟩ := hv)) | (refine XG_alloc ?_; (refine XL_alloc tt_ok rfl rfl (fun _ => rfl) (fun b => ?_); refine XL_nB (by repeat' (first | exact .nil | apply NL.cons)) ?_)) | (refine XG_store ?_; (refine XL_storeW tt_ok 0 rfl rfl rfl rfl rfl rfl rfl ?_; refine XL_nK 0 rfl (by repeat' (first | exact .nil | apply NL.cons)) ?_)) | (refine XL_op tt_ok rfl rfl ?_; try (first | refine XL_dec_t (by omega) ?_ | refine XL_dec (fun _ => ?_) (fun _ => ?_)))) | (refine X_id ?_; first | refine X_seq ?_ | (refine X_regionN (by repeat' (first | exact .nil | apply NL.cons)) ?_) | refine X_skip ?_ | refine X_ret ?_ | refine X_cond_t rfl ?_ | refine X_cond_f rfl ?_) | (refine Y_id ?_; first | refine Y_then ?_ | refine Y_then_ret ?_ | refine Y_block_normal ?_ | refine Y_block_ret ?_))
        all_goals first
          | exact Y_again (y0 :: rm y0.a y0.p ys, (A2, c2), rmK y0.a y0.p ks ++ [(⟨y0, false⟩ : Kp)]) fun _ _ hf hs => ⟨⟨hok2, hsf.2, by show (rmK y0.a y0.p ks ++ [(⟨y0, false⟩ : Kp)]).length ≤ i + 1; rw [List.length_append, List.length_singleton]; omega⟩, hf.sub (by (repeat' (first | exact trivial | refine And.intro rfl ?_)); done), hs.imp fun h hs => stars_only [2, 0] rfl h hs⟩
          | exact Y_again (y0 :: rm y0.a y0.p ys, (A2, c2), rmK y0.a y0.p ks ++ [(⟨y0, false⟩ : Kp)]) fun _ _ hf hs => ⟨⟨hok2, hsf.2, by show (rmK y0.a y0.p ks ++ [(⟨y0, false⟩ : Kp)]).length ≤ i + 1; rw [List.length_append, List.length_singleton]; omega⟩, hf.sub (by (repeat' (fail)); done), hs.imp fun h hs => stars_only [1, 0] rfl h hs⟩
          | (exfalso; rename_i h9; exact absurd rfl h9)
          | (exfalso; omega)
          | skip
        
    · have hfl := fill_is p n ys (bring (Cof.get l (i : Int)).x)
      rw [hfe] at hfl
      have hok2 := hok.fillT (bring (Cof.get l (i : Int)).x)
      have hsf := stay_fill (x := bring (Cof.get l (i : Int)).x) hok hst hask hfe
      have htn := turned_spec A1 ks.length c1 ks ⟨bring (Cof.get l (i : Int)).x, false⟩ (by omega)
      have hrl := rmK_length (bring (Cof.get l (i : Int)).x).a (bring (Cof.get l (i : Int)).x).p ks
      repeat' (first | (refine XL_id ?_; first | refine XL_nil ?_ | (refine XG_load ?_; refine XL_loadW tt_ok 1 rfl rfl rfl rfl rfl rfl ?_) | (refine XG_build ?_; (refine XL_build tt_ok rfl rfl rfl rfl rfl rfl rfl ?_; refine XL_aggN (by repeat' (first | exact .nil | apply NL.cons)) ?_)) | (refine XG_call ?_; first | refine XL_callE [1] hfl rfl rfl rfl (fun _ _ _ => trivial) ?_ | (refine XL_callK [] htn rfl rfl (fun _ => rfl) (fun g hg hL => rd_at 2 rfl hL) (fun u L hv => ?_); obtain ⟨A2, c2, rfl, rfl⟩ := hv)) | (refine XL_op tt_ok rfl rfl ?_; try (refine XL_dec_f (by omega) ?_))) | (refine X_id ?_; first | (refine X_regionN (by repeat' (first | exact .nil | apply NL.cons)) ?_) | refine X_skip ?_ | refine X_cond_f rfl ?_) | (refine Y_id ?_; first | refine Y_then ?_ | refine Y_block_normal ?_))
      all_goals first
        | exact Y_again (fillT n ys (bring (Cof.get l (i : Int)).x), (A2, c2), rmK (bring (Cof.get l (i : Int)).x).a (bring (Cof.get l (i : Int)).x).p ks ++ [(⟨bring (Cof.get l (i : Int)).x, false⟩ : Kp)]) fun _ _ hf hs => ⟨⟨hok2, hsf, by show (rmK (bring (Cof.get l (i : Int)).x).a (bring (Cof.get l (i : Int)).x).p ks ++ [(⟨bring (Cof.get l (i : Int)).x, false⟩ : Kp)]).length ≤ i + 1; rw [List.length_append, List.length_singleton]; omega⟩, hf.sub (by (repeat' (first | exact trivial | refine And.intro rfl ?_)); done), hs.imp fun h hs => stars_only [1, 0] rfl h hs⟩
        | (exfalso; rename_i h9; exact absurd rfl h9)
        | (exfalso; omega)
        | skip
      
    · have hdr := dropK_is p n ys ((Cof.get l (i : Int)).x.a % 3) ((Cof.get l (i : Int)).x.p % 6) hok.uniq
      rw [hask] at hdr
      have hok2 := hok.dropT ((Cof.get l (i : Int)).x.a % 3) ((Cof.get l (i : Int)).x.p % 6)
      have hsf := stay_drop (a := (Cof.get l (i : Int)).x.a % 3) (p := (Cof.get l (i : Int)).x.p % 6) hst hask
      have htn := dropped_is A1 ks.length c1 ks ((Cof.get l (i : Int)).x.a % 3) ((Cof.get l (i : Int)).x.p % 6) (by omega) rfl
      repeat' (first | (refine XL_id ?_; first | refine XL_nil ?_ | (refine XG_load ?_; refine XL_load tt_ok 1 rfl rfl rfl rfl rfl rfl ?_) | (refine XG_call ?_; first | refine XL_callE [1] hdr rfl rfl rfl (fun _ _ _ => trivial) ?_ | (refine XL_callK [] htn rfl rfl (fun _ => rfl) (fun g hg hL => rd_at 2 rfl hL) (fun u L hv => ?_); obtain ⟨A2, c2, rfl, rfl⟩ := hv)) | (refine XL_op tt_ok rfl rfl ?_; try (refine XL_dec_f (by omega) ?_))) | (refine X_id ?_; first | refine X_seq ?_ | (refine X_regionN (by repeat' (first | exact .nil | apply NL.cons)) ?_) | refine X_skip ?_ | refine X_cond_f rfl ?_) | (refine Y_id ?_; first | refine Y_then ?_ | refine Y_block_normal ?_))
      all_goals first
        | exact Y_again (dropT ys ((Cof.get l (i : Int)).x.a % 3) ((Cof.get l (i : Int)).x.p % 6), (A2, c2), ks.map (goneK ((Cof.get l (i : Int)).x.a % 3) ((Cof.get l (i : Int)).x.p % 6))) fun _ _ hf hs => ⟨⟨hok2, hsf, by show (ks.map (goneK ((Cof.get l (i : Int)).x.a % 3) ((Cof.get l (i : Int)).x.p % 6))).length ≤ i + 1; rw [List.length_map]; omega⟩, hf.sub (by (repeat' (first | exact trivial | refine And.intro rfl ?_)); done), hs.imp fun h hs => stars_only [1, 0] rfl h hs⟩
        | (exfalso; rename_i h9; exact absurd rfl h9)
        | (exfalso; omega)
        | skip
      
    · obtain ⟨zs, ⟨A3, c3⟩, ks3⟩ := j
      exact Y_again (i + 1, zs, (A3, c3), ks3) fun _ _ hf hs => ⟨⟨by show i + 1 ≤ m; omega, hj.1, hj.2.1, hj.2.2⟩, by show m - (i + 1) < m - i; omega, hf.sub (by (repeat' (first | exact trivial | refine And.intro rfl ?_)); done), hs⟩
    
  · repeat' (first | (refine XL_id ?_; first | refine XL_nil ?_ | refine XL_guard_yes rfl rfl rfl ?_ | refine XL_guard_no rfl rfl rfl rfl rfl ?_ | (refine XL_op tt_ok rfl rfl ?_; try (first | refine XL_dec_f (by omega) ?_ | refine XL_dec (fun _ => ?_) (fun _ => ?_)))) | (refine X_id ?_; first | refine X_seq ?_ | (refine X_regionN (by repeat' (first | exact .nil | apply NL.cons)) ?_) | refine X_ret ?_ | refine X_exit ?_ | refine X_cond_f rfl ?_) | (refine Y_id ?_; first | refine Y_then ?_ | refine Y_then_exit ?_ | refine Y_block_hit ?_))
    all_goals first
      | exact Y_fn1 rfl rfl rfl
      | (exfalso; rename_i h9; exact absurd rfl h9)
      | (exfalso; omega)
      | skip
    
end Go.Proofs.Ytocilbkjbikeeaa
