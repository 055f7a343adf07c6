/- The law TlbAges, walked. -/
import Derived.Test.YtocilbkjbikeeaaLe
import Derived.Test.YtocilbkjbikeeaaSlW
set_option linter.unusedVariables false
namespace Go.Proofs.Ytocilbkjbikeeaa
open Go.RowKit Go.Cof

set_option maxHeartbeats 8000000 in
theorem wlaw_spec (A : Option Addr) (m c : Nat) (ys : List Tr) (a p : Int) (hm : m ≤ 100000) : Ctr Try.prog 18 [.slice A m c, .int .i64 a, .int .i64 p] (fun h => rdS encTr h A m ys) [] (fun v L => ∃ A' c', v = .slice A' (rm a p ys).length c' ∧ L = [own encTr A' (rm a p ys).length c' (rm a p ys)]) := by
  refine Ctr.intro Try.func18 rfl rfl (by decide +kernel) fun F hpre => ?_
  have r1 : rdS encTr F.heap A m ys := hpre
  have hlen := r1.1
  repeat' (first | (refine XL_id ?_; first | refine XL_nil ?_ | (refine XL_op tt_ok rfl rfl ?_)) | (refine X_id ?_; first | refine X_seq ?_ | (refine X_regionN (by repeat' (exact .nil)) ?_) | refine X_block ?_) | (refine Y_id ?_; refine Y_then ?_))
  refine X_loopD4 [0, 1, 2] (fun (i : Nat) (A2 : Option Addr) (c2 : Nat) (zs : List Tr) => [(8, .int .i64 i), (7, .slice A2 zs.length c2)]) (fun _ A2 c2 zs => [own encTr A2 zs.length c2 zs]) (fun i A2 c2 zs => i ≤ m ∧ zs = rm a p (ys.take i)) (fun i _ _ _ => m - i) 0 none 0 [] rfl ⟨Nat.zero_le _, rfl⟩ (by (repeat' (first | exact trivial | refine And.intro rfl ?_)); done) (fun h hs => stars_new (own_nil _ _) hs) ?_
  intro i A2 c2 zs hi
  obtain ⟨hi, hz⟩ := hi
  have hzl : zs.length ≤ i := by
    rw [hz]
    exact Nat.le_trans (rm_len _ _ _) (List.length_take_le _ _)
  by_cases hlt : i < m
  · have hsn := take_snoc' ys i (by omega)
    by_cases hk : (Cof.get ys i).a = a ∧ (Cof.get ys i).p = p
    · have hkt : kB a p (Cof.get ys i) = true := kB_iff.2 hk
      have hst : rm a p (ys.take (i + 1)) = rm a p (ys.take i) := by
        unfold rm
        rw [hsn, List.filter_append, List.filter_cons_of_neg (by rw [hkt]; decide), List.filter_nil, List.append_nil]
      repeat' (first | (refine XL_id ?_; first | refine XL_nil ?_ | refine XL_guard_yes rfl rfl rfl ?_ | (refine XG_load ?_; first | refine XL_el tt_ok rfl (by assumption) rfl (by omega) (by omega) rfl rfl rfl rfl ?_ | refine XL_elf tt_ok rfl (by assumption) rfl (by omega) (by omega) rfl rfl rfl rfl ?_) | (refine XG_idx ?_; refine XL_idx tt_ok rfl rfl rfl rfl rfl (by assumption) (by omega) (by omega) rfl ?_) | (refine XL_op tt_ok rfl rfl ?_; try (first | refine XL_int (wrap_i64 (by omega) (by omega)) ?_ | refine XL_dec_t (by omega) ?_ | refine XL_dec_f (by omega) ?_))) | (refine X_id ?_; first | refine X_seq ?_ | (refine X_regionN (by repeat' (first | exact .nil | apply NL.cons)) ?_) | refine X_skip ?_ | refine X_block ?_ | refine X_cond_t rfl ?_ | refine X_cond_f rfl ?_) | (refine Y_id ?_; first | refine Y_then ?_ | refine Y_block_normal ?_))
      all_goals first
        | exact Y_again (i + 1, A2, c2, zs) fun _ _ hf hs => ⟨⟨by show i + 1 ≤ m; omega, by rw [hst]; exact hz⟩, by show m - (i + 1) < m - i; omega, hf.sub (by (repeat' (first | exact trivial | refine And.intro rfl ?_)); done), hs⟩
        | (exfalso; omega)
        | skip
      
    · have hkt : kB a p (Cof.get ys i) = false := by
        cases hk2 : kB a p (Cof.get ys i) with
        | false => rfl
        | true => exact absurd (kB_iff.1 hk2) hk
      have hst : rm a p (ys.take (i + 1)) = rm a p (ys.take i) ++ [Cof.get ys i] := by
        unfold rm
        rw [hsn, List.filter_append, List.filter_cons_of_pos (by rw [hkt]; decide), List.filter_nil]
      repeat' (first | (refine XL_id ?_; first | refine XL_nil ?_ | refine XL_guard_yes rfl rfl rfl ?_ | refine XL_guard_no rfl rfl rfl rfl rfl ?_ | (refine XG_load ?_; first | refine XL_elW tt_ok rfl (by assumption) rfl (by omega) (by omega) rfl rfl rfl rfl ?_ | refine XL_el tt_ok rfl (by assumption) rfl (by omega) (by omega) rfl rfl rfl rfl ?_ | refine XL_elf tt_ok rfl (by assumption) rfl (by omega) (by omega) rfl rfl rfl rfl ?_) | (refine XG_idx ?_; refine XL_idx tt_ok rfl rfl rfl rfl rfl (by assumption) (by omega) (by omega) rfl ?_) | (refine XG_call ?_; first | (refine XL_op tt_ok rfl rfl ?_) | (refine XL_app1 tt_ok 1 0 (Cof.get ys i) rfl rfl rfl rfl rfl rfl rfl rfl rfl rfl rfl (by show (_ : Nat) * 32 ≤ _; omega) (by omega) (fun _ _ => rfl) (fun A3 c3 => ?_))) | (refine XG_lit ?_; (refine XL_lit tt_ok rfl rfl rfl rfl rfl rfl rfl rfl rfl (fun _ => rfl) (fun b => ?_); refine XL_nB (by repeat' (first | exact .nil | apply NL.cons)) ?_)) | (refine XL_op tt_ok rfl rfl ?_; try (first | refine XL_int (wrap_i64 (by omega) (by omega)) ?_ | refine XL_dec_t (by omega) ?_ | refine XL_dec (fun _ => ?_) (fun _ => ?_)))) | (refine X_id ?_; first | refine X_seq ?_ | (refine X_regionN (by repeat' (first | exact .nil | apply NL.cons)) ?_) | refine X_skip ?_ | refine X_block ?_ | refine X_cond_t rfl ?_) | (refine Y_id ?_; first | refine Y_then ?_ | refine Y_block_normal ?_))
      all_goals first
        | exact Y_again (i + 1, A3, c3, zs ++ [Cof.get ys i]) fun _ _ hf hs => ⟨⟨by show i + 1 ≤ m; omega, by rw [hst, ← hz]⟩, by show m - (i + 1) < m - i; omega, hf.sub (by simp only [List.length_append, List.length_singleton]; exact (by (repeat' (first | exact trivial | refine And.intro rfl ?_)); done)), hs.imp fun h hs => by have h1 := stars_only [1] rfl h hs; simpa using h1⟩
        | (exfalso; omega)
        | skip
      
  · obtain rfl : i = m := by omega
    rw [List.take_of_length_le (by omega)] at hz
    subst hz
    repeat' (first | (refine XL_id ?_; first | refine XL_nil ?_ | (refine XL_op tt_ok rfl rfl ?_; try (refine XL_dec_f (by omega) ?_))) | (refine X_id ?_; first | refine X_seq ?_ | (refine X_regionN (by repeat' (first | exact .nil | apply NL.cons)) ?_) | refine X_ret ?_ | refine X_exit ?_ | refine X_cond_f rfl ?_) | (refine Y_id ?_; first | refine Y_then ?_ | refine Y_then_exit ?_ | refine Y_block_hit ?_))
    exact Y_ret1 rfl rfl (fun _ h => h) ⟨A2, c2, rfl, rfl⟩
theorem mk1 {a p : Int} {y : Tr} (h : y.a = a ∧ y.p = p) : markX a p y = { y with d := true } := if_pos (kB_iff.2 h)
theorem mk2 {a p : Int} {y : Tr} (hd : y.d = true) : markX a p y = { y with d := true } := by
  unfold markX
  split
  · rfl
  · rw [← hd]
theorem mk3 {a p : Int} {y : Tr} (h : ¬ (y.a = a ∧ y.p = p)) (hd : y.d = false) : markX a p y = { y with d := false } := by
  unfold markX
  rw [if_neg fun hk => h (kB_iff.1 hk), ← hd]
theorem find_some_of {ys : List Tr} {a p : Int} (ha : askE a p = 0) {y : Tr} (hf : ys.find? (kB a p) = some y) : findT ys a p = y :: rm a p ys := by unfold findT; rw [if_pos ha, hf]
theorem find_none_of {ys : List Tr} {a p : Int} (ha : askE a p = 0) (hf : ys.find? (kB a p) = none) : findT ys a p = ys := by unfold findT; rw [if_pos ha, hf]
theorem rm_none_of {ys : List Tr} {a p : Int} (hf : ys.find? (kB a p) = none) : rm a p ys = ys := List.filter_eq_self.2 fun x hx => by rw [find_none_iff.1 hf x hx]; rfl
set_option maxRecDepth 100000 in
set_option maxHeartbeats 16000000 in
theorem tlbAges_walk (n0 : Int) (A : Option Addr) (m c : Nat) (l : List Dd) (hn : -9223372036854775808 ≤ n0 ∧ n0 ≤ 9223372036854775807) (hm : m ≤ 9223372036854775807) (hl : ∀ x ∈ l, x.In) :
    FnC Try.prog 4 [.int .i64 n0, .slice A m c] (fun h => rdS encDd h A m l) (.bool true) := by
  have hk0 := kind_spec n0 8 hn.1 hn.2 (by decide) (by decide)
  obtain ⟨n, hnn⟩ : ∃ n, n = 1 + n0 % 8 := ⟨_, rfl⟩
  have hn1 : 1 ≤ n := by omega
  have hn8 : n ≤ 8 := by omega
  have hnew := new_ok n hn1 (by omega)
  refine Ctr.intro Try.func4 rfl rfl (by decide +kernel) fun F hpre => ?_
  have r1 : rdS encDd F.heap A m l := hpre
  have hlen := r1.1
  repeat' (first | (refine XL_id ?_; first | refine XL_nil ?_ | (refine XG_call ?_; first | refine XL_fn works_spec rfl rfl (fun _ _ _ => trivial) ?_ | refine XL_fn hk0 rfl rfl (fun _ _ _ => trivial) ?_ | (refine XL_callK [] hnew rfl rfl (fun _ => rfl) (fun _ _ _ => trivial) (fun u L hv => ?_); obtain ⟨p, rfl, rfl⟩ := hv)) | (refine XL_op tt_ok rfl rfl ?_; refine XL_int (show _ = n from (wrap_i64 (by omega) (by omega)).trans hnn.symm) ?_) | (refine XL_op tt_ok rfl rfl ?_; try (refine XL_dec_f (by omega) ?_))) | (refine X_id ?_; first | refine X_seq ?_ | (refine X_regionN (by repeat' (first | exact .nil | apply NL.cons)) ?_) | refine X_skip ?_ | refine X_block ?_ | refine X_cond_f rfl ?_) | (refine Y_id ?_; refine Y_then ?_))
  refine X_loopD2 [0, 1, 5] (fun (i : Nat) (ys : List Tr) => [(7, .int .i64 i)]) (fun _ ys => [isTlb p n ys]) (fun i ys => i ≤ m ∧ TOk n ys) (fun i _ => m - i) 0 [] rfl ⟨Nat.zero_le _, TOk.nil hn1 (by omega)⟩ (by (repeat' (first | exact trivial | refine And.intro rfl ?_)); done) (fun h hs => hs) ?_
  intro i ys hi
  obtain ⟨hi, hok⟩ := hi
  by_cases hlt : i < m ∧ i < 60
  · have hx := hl _ (get_mem' (l := l) (i := (i : Int)) (by omega) (by omega))
    have hq := hx.a; have hq2 := hx.p; have hq3 := hx.f; have hq4 := hx.k
    have hka := kind_spec (Cof.get l (i : Int)).x.a 3 hq.1 hq.2 (by decide) (by decide)
    have hkp := kind_spec (Cof.get l (i : Int)).x.p 6 hq2.1 hq2.2 (by decide) (by decide)
    have hkf := kind_spec (Cof.get l (i : Int)).x.f 4096 hq3.1 hq3.2 (by decide) (by decide)
    have hkk := kind_spec (Cof.get l (i : Int)).k 5 hq4.1 hq4.2 (by decide) (by decide)
    have hask := bring_ask (Cof.get l (i : Int)).x
    have hfe := bring_fill (Cof.get l (i : Int)).x
    have hk5 : (Cof.get l (i : Int)).k % 5 = 0 ∨ (Cof.get l (i : Int)).k % 5 = 1 ∨ (Cof.get l (i : Int)).k % 5 = 2 ∨ (Cof.get l (i : Int)).k % 5 = 3 ∨ (Cof.get l (i : Int)).k % 5 = 4 := by omega
    have hyl := hok.len
    have hrl := rm_len ((Cof.get l (i : Int)).x.a % 3) ((Cof.get l (i : Int)).x.p % 6) ys
    have hall := all_is p n ys
    have hwl := fun (A1 : Option Addr) (c1 : Nat) => wlaw_spec A1 ys.length c1 ys ((Cof.get l (i : Int)).x.a % 3) ((Cof.get l (i : Int)).x.p % 6) (by omega)
    repeat' (first | (refine XL_id ?_; first | refine XL_nil ?_ | refine XL_guard_yes rfl rfl rfl ?_ | (refine XG_load ?_; first | refine XL_loadW tt_ok 3 rfl rfl rfl rfl rfl rfl ?_ | refine XL_load tt_ok 0 rfl rfl rfl rfl rfl rfl ?_ | refine XL_load tt_ok 2 rfl rfl rfl rfl rfl rfl ?_ | refine XL_load tt_ok 3 rfl rfl rfl rfl rfl rfl ?_ | refine XL_el tt_ok rfl (by assumption) rfl (by omega) (by omega) rfl rfl rfl rfl ?_ | refine XL_elf tt_ok rfl (by assumption) rfl (by omega) (by omega) rfl rfl rfl rfl ?_) | (refine XG_idx ?_; refine XL_idx tt_ok rfl rfl rfl rfl rfl (by assumption) (by omega) (by omega) rfl ?_) | (refine XG_call ?_; first | (refine XL_op tt_ok rfl rfl ?_) | refine XL_fn hka rfl rfl (fun _ _ _ => trivial) ?_ | refine XL_fn hkp rfl rfl (fun _ _ _ => trivial) ?_ | refine XL_fn hkf rfl rfl (fun _ _ _ => trivial) ?_ | refine XL_fn hkk rfl rfl (fun _ _ _ => trivial) ?_ | (refine XL_callK [1] hall rfl rfl (fun _ => rfl) (fun _ _ _ => trivial) (fun u L hv => ?_); obtain ⟨A1, c1, rfl, rfl⟩ := hv) | (refine XL_callK [] (hwl _ _) rfl rfl (fun _ => rfl) (fun g hg hL => rd_at 0 rfl hL) (fun u L hv => ?_); obtain ⟨A2, c2, rfl, rfl⟩ := hv; refine XL_fact 0 rfl (fun h o => own_len o) (fun ho2 => ?_)) | (refine XL_callK [0] (all_is p n j.1) rfl rfl (fun _ => rfl) (fun _ _ _ => trivial) (fun u L hv => ?_); obtain ⟨A4, c4, rfl, rfl⟩ := hv) | (refine XL_fn (same_spec A4 j.2.1 j.1.length c4 j.1.length j.2.2 j.1 j.1 (by have := hj.2; omega) (by have := hj.2; omega)) rfl rfl (fun g hg hL => ⟨rd_at 0 rfl hL, rd_at 2 rfl hL⟩) ?_; refine XL_dec_t rfl ?_)) | (refine XG_alloc ?_; (refine XL_alloc tt_ok rfl rfl (fun _ => rfl) (fun b => ?_); refine XL_nB (by repeat' (first | exact .nil | apply NL.cons)) ?_)) | (refine XG_store ?_; first | (refine XL_storeW tt_ok 0 rfl rfl rfl rfl rfl rfl rfl ?_; refine XL_nK 0 rfl (by repeat' (first | exact .nil | apply NL.cons)) ?_) | (refine XL_store tt_ok 0 rfl rfl rfl rfl rfl rfl rfl rfl ?_; refine XL_nK 0 rfl (by repeat' (first | exact .nil | apply NL.cons)) ?_)) | (refine XL_op tt_ok rfl rfl ?_; try (first | refine XL_int (wrap_i64 (by omega) (by omega)) ?_ | refine XL_dec_t (by omega) ?_ | refine XL_dec (fun _ => ?_) (fun _ => ?_)))) | (refine X_id ?_; first | refine X_cutD (c := .block 2 _) [0, 1, 5, 7] (fun (j : List Tr × Option Addr × Nat) => [(11, .slice j.2.1 j.1.length j.2.2)]) (fun j => [isTlb p n j.1, own encTr j.2.1 j.1.length j.2.2 j.1]) (fun j => TOk n j.1 ∧ (j.1.length : Int) ≤ n) rfl (X_block ?_) (fun j hj => ?_) | refine X_seq ?_ | (refine X_regionN (by repeat' (first | exact .nil | apply NL.cons)) ?_) | refine X_skip ?_ | refine X_block ?_ | refine X_cond_t rfl ?_ | refine X_cond_f rfl ?_) | (refine Y_id ?_; first | refine Y_then ?_ | refine Y_block_normal ?_))
    · have hfi := find_is p n ys ((Cof.get l (i : Int)).x.a % 3) ((Cof.get l (i : Int)).x.p % 6)
      unfold peekR at hfi
      rw [if_pos hask] at hfi
      cases hf0 : ys.find? (kB ((Cof.get l (i : Int)).x.a % 3) ((Cof.get l (i : Int)).x.p % 6)) with
      | none =>
        have e0 := find_none_of hask hf0
        have e1 := congrArg List.length (rm_none_of hf0)
        rw [hf0, e0] at hfi
        dsimp only at hfi
        repeat' (first | (refine XL_id ?_; first | refine XL_nil ?_ | refine XL_guard_yes rfl rfl rfl ?_ | (refine XG_call ?_; first | (refine XL_op tt_ok rfl rfl ?_) | refine XL_callE [2] hfi rfl rfl rfl (fun _ _ _ => trivial) ?_) | (refine XG_alloc ?_; (refine XL_alloc tt_ok rfl rfl (fun _ => rfl) (fun b => ?_); refine XL_nB (by repeat' (first | exact .nil | apply NL.cons)) ?_)) | (refine XG_store ?_; (refine XL_storeW tt_ok 0 rfl rfl rfl rfl rfl rfl rfl ?_; refine XL_nK 0 rfl (by repeat' (first | exact .nil | apply NL.cons)) ?_)) | (refine XL_op tt_ok rfl rfl ?_; try (first | refine XL_dec_t (by omega) ?_ | refine XL_dec_f (by omega) ?_ | refine XL_dec (fun _ => ?_) (fun _ => ?_)))) | (refine X_id ?_; first | refine X_seq ?_ | (refine X_regionN (by repeat' (first | exact .nil | apply NL.cons)) ?_) | refine X_skip ?_ | refine X_ret ?_ | refine X_cond_t rfl ?_ | refine X_cond_f rfl ?_) | (refine Y_id ?_; first | refine Y_then ?_ | refine Y_then_ret ?_ | refine Y_block_normal ?_ | refine Y_block_ret ?_))
        all_goals first
          | exact Y_again (ys, A1, c1) fun _ _ hf hs => ⟨⟨hok, hok.len⟩, hf.sub (by (repeat' (first | exact trivial | refine And.intro rfl ?_)); done), hs.imp fun h hs => stars_only [0, 0] rfl h hs⟩
          | exact Y_again (ys, A1, c1) fun _ _ hf hs => ⟨⟨hok, hok.len⟩, hf.sub (by (repeat' (first | exact trivial | refine And.intro rfl ?_)); done), hs.imp fun h hs => stars_only [0, 1] rfl h hs⟩
          | exact Y_again (ys, A1, c1) fun _ _ hf hs => ⟨⟨hok, hok.len⟩, hf.sub (by (repeat' (first | exact trivial | refine And.intro rfl ?_)); done), hs.imp fun h hs => stars_only [1, 0] rfl h hs⟩
          | exact Y_again (ys, A1, c1) fun _ _ hf hs => ⟨⟨hok, hok.len⟩, hf.sub (by (repeat' (first | exact trivial | refine And.intro rfl ?_)); done), hs.imp fun h hs => stars_only [1, 1] rfl h hs⟩
          | exact Y_again (ys, A1, c1) fun _ _ hf hs => ⟨⟨hok, hok.len⟩, hf.sub (by (repeat' (first | exact trivial | refine And.intro rfl ?_)); done), hs.imp fun h hs => stars_only [1, 2] rfl h hs⟩
          | exact Y_again (ys, A1, c1) fun _ _ hf hs => ⟨⟨hok, hok.len⟩, hf.sub (by (repeat' (fail)); done), hs.imp fun h hs => stars_only [0, 2] rfl h hs⟩
          | (exfalso; rename_i h9; exact absurd rfl h9)
          | (exfalso; rename_i h9; exact h9 rfl)
          | (exfalso; rename_i h9; cases h9; done)
          | (exfalso; omega)
          | skip
        
      | some y0 =>
        have e0 := find_some_of hask hf0
        have e1 := rm_lt hf0
        have hok2 := hok.findT ((Cof.get l (i : Int)).x.a % 3) ((Cof.get l (i : Int)).x.p % 6)
        rw [e0] at hok2
        rw [hf0, e0] at hfi
        dsimp only at hfi
        repeat' (first | (refine XL_id ?_; first | refine XL_nil ?_ | refine XL_guard_yes rfl rfl rfl ?_ | (refine XL_conv 0 (own encTr (some ⟨_, 0, none⟩) 1 1 [y0]) rfl (fun h o => own_of_blk o rfl rfl (by decide)) ?_; refine XL_appO tt_ok 0 3 rfl rfl rfl rfl rfl rfl rfl rfl rfl rfl (by show (_ : Nat) * 32 ≤ _; omega) (by omega) (fun _ _ => rfl) (fun A5 c5 => ?_)) | (refine XG_load ?_; refine XL_loadW tt_ok 0 rfl rfl rfl rfl rfl rfl ?_) | (refine XG_call ?_; first | (refine XL_op tt_ok rfl rfl ?_) | refine XL_callE [2] hfi rfl rfl rfl (fun _ _ _ => trivial) ?_) | (refine XG_alloc ?_; (refine XL_alloc tt_ok rfl rfl (fun _ => rfl) (fun b => ?_); refine XL_nB (by repeat' (first | exact .nil | apply NL.cons)) ?_)) | (refine XG_lit ?_; (refine XL_lit tt_ok rfl rfl rfl rfl rfl rfl rfl rfl rfl (fun _ => rfl) (fun b => ?_); refine XL_nB (by repeat' (first | exact .nil | apply NL.cons)) ?_)) | (refine XG_store ?_; (refine XL_storeW tt_ok 0 rfl rfl rfl rfl rfl rfl rfl ?_; refine XL_nK 0 rfl (by repeat' (first | exact .nil | apply NL.cons)) ?_)) | (refine XL_op tt_ok rfl rfl ?_; try (first | refine XL_dec_t (by omega) ?_ | refine XL_dec_f (by omega) ?_ | refine XL_dec (fun _ => ?_) (fun _ => ?_)))) | (refine X_id ?_; first | refine X_seq ?_ | (refine X_regionN (by repeat' (first | exact .nil | apply NL.cons)) ?_) | refine X_skip ?_ | refine X_ret ?_ | refine X_cond_t rfl ?_ | refine X_cond_f rfl ?_) | (refine Y_id ?_; first | refine Y_then ?_ | refine Y_then_ret ?_ | refine Y_block_normal ?_ | refine Y_block_ret ?_))
        all_goals first
          | (exfalso; rename_i h9; exact absurd rfl h9)
          | (exfalso; rename_i h9; exact h9 rfl)
          | (exfalso; omega)
          | exact Y_again (y0 :: rm ((Cof.get l (i : Int)).x.a % 3) ((Cof.get l (i : Int)).x.p % 6) ys, A5, c5) fun _ _ hf hs => ⟨⟨hok2, hok2.len⟩, hf.sub (by rw [List.length_cons, Nat.add_comm]; exact (by (repeat' (first | exact trivial | refine And.intro rfl ?_)); done)), hs.imp fun h hs => by have h1 := stars_only [2, 0] rfl h hs; rw [Nat.add_comm] at h1; exact h1⟩
          | skip
        
    · have hfl := fill_is p n ys (bring (Cof.get l (i : Int)).x)
      rw [hfe] at hfl
      have hok2 := hok.fillT (bring (Cof.get l (i : Int)).x)
      obtain ⟨K, hK, hK2⟩ : ∃ K : Nat, (if n - 1 < ((rm ((Cof.get l (i : Int)).x.a % 3) ((Cof.get l (i : Int)).x.p % 6) ys).length : Int) then n - 1 else ((rm ((Cof.get l (i : Int)).x.a % 3) ((Cof.get l (i : Int)).x.p % 6) ys).length : Int)) = (K : Int) ∧ K ≤ (rm ((Cof.get l (i : Int)).x.a % 3) ((Cof.get l (i : Int)).x.p % 6) ys).length := ⟨min (n - 1).toNat (rm ((Cof.get l (i : Int)).x.a % 3) ((Cof.get l (i : Int)).x.p % 6) ys).length, by split <;> omega, Nat.min_le_right _ _⟩
      have hft : fillT n ys (bring (Cof.get l (i : Int)).x) = bring (Cof.get l (i : Int)).x :: (rm ((Cof.get l (i : Int)).x.a % 3) ((Cof.get l (i : Int)).x.p % 6) ys).take K := by
        unfold fillT
        rw [if_pos hfe]
        show bring (Cof.get l (i : Int)).x :: (rm ((Cof.get l (i : Int)).x.a % 3) ((Cof.get l (i : Int)).x.p % 6) ys).take (n - 1).toNat = _
        split at hK
        · rw [show (n - 1).toNat = K by omega]
        · rw [List.take_of_length_le (l := rm ((Cof.get l (i : Int)).x.a % 3) ((Cof.get l (i : Int)).x.p % 6) ys) (i := K) (by omega), List.take_of_length_le (by omega)]
      have hfln : (bring (Cof.get l (i : Int)).x :: (rm ((Cof.get l (i : Int)).x.a % 3) ((Cof.get l (i : Int)).x.p % 6) ys).take K).length = 1 + ((K : Int).toNat - 0) := by
        rw [List.length_cons, List.length_take, Nat.min_eq_left hK2]
        show K + 1 = 1 + K
        omega
      rw [hft] at hfl hok2
      have hc2 := ho2.2.1
      repeat' (first | (refine XL_id ?_; first | refine XL_nil ?_ | (refine XL_conv 0 (own encTr (some ⟨_, 0, none⟩) 1 1 [bring (Cof.get l (i : Int)).x]) rfl (fun h o => own_of_blk o rfl rfl (by decide)) ?_; refine XL_appF tt_ok 0 rfl rfl (rdS.sub (rd_at 0 rfl hM) (l := 0) (k := (K : Int).toNat) (cc := c2) (Nat.zero_le _) (by omega) (by omega)) rfl rfl rfl rfl rfl rfl rfl (by show (_ : Nat) * 32 ≤ _; omega) (by omega) (fun _ _ => rfl) (fun A5 c5 => ?_)) | (refine XG_call ?_; refine XL_callE [2] hfl rfl rfl rfl (fun _ _ _ => trivial) ?_) | (refine XG_lit ?_; (refine XL_lit tt_ok rfl rfl rfl rfl rfl rfl rfl rfl rfl (fun _ => rfl) (fun b => ?_); refine XL_nB (by repeat' (first | exact .nil | apply NL.cons)) ?_)) | (refine XL_op tt_ok rfl rfl ?_; try (refine XL_dec_f (by omega) ?_))) | (refine XD_id ?_; first | refine XD_int hK ?_ | (refine XD_thaw thaw ?_; refine XD_nil ?_) | (refine XD_id ?_; (first | (refine XD_uL rfl ?_; refine XD_s rfl rfl rfl (XV_loadW tt_ok rfl (blk_at 1 rfl hM) rfl rfl rfl) rfl ?_) | (refine XD_u rfl rfl ?_; first | refine XD_s rfl rfl rfl (XV_op tt_ok rfl) rfl ?_ | refine XD_s rfl rfl rfl (XV_slice tt_ok rfl rfl rfl rfl (.hi (by omega) (by omega)) rfl rfl rfl) rfl ?_)); try (refine XD_int (wrap_i64 (by omega) (by omega)) ?_)) | refine XD_m rfl rfl ?_) | (refine X_id ?_; first | (refine X_drawS (id := 31) [0, 2, 3, 4, 5, 6, 7, 8, 1, 9, 10] (fun | 1 => .m | 9 => .m | _ => .s) 8 (by (repeat apply Split.blk); apply Split.keep; (repeat apply Split.blk); apply Split.frz; (repeat apply Split.blk); apply Split.keep; repeat' (first | exact Split.nil | apply Split.blk)) mixed (by decide +kernel) ?_; intro G hFG hM thaw; show XD _ _ _ _ _ _ [0, 2, 3, 4, 5, 6, 7, 8, 1, 9, 10] _ _ _) | refine X_skip ?_ | refine X_cond_f rfl ?_) | (refine Y_id ?_; first | refine Y_then ?_ | refine Y_block_normal ?_ | refine Y_m ?_))
      all_goals first
        | (exfalso; rename_i h9; exact absurd rfl h9)
        | (exfalso; rename_i h9; exact h9 rfl)
        | (exfalso; omega)
        | exact Y_again (bring (Cof.get l (i : Int)).x :: (rm ((Cof.get l (i : Int)).x.a % 3) ((Cof.get l (i : Int)).x.p % 6) ys).take K, A5, c5) fun _ _ hf hs => ⟨⟨hok2, hok2.len⟩, hf.sub (by rw [hfln]; exact (by (repeat' (first | exact trivial | refine And.intro rfl ?_)); done)), hs.imp fun h hs => by have h1 := stars_only [1, 0] rfl h hs; rw [hfln]; exact h1⟩
        | skip
      
    · have hfi := peek_is p n ys ((Cof.get l (i : Int)).x.a % 3) ((Cof.get l (i : Int)).x.p % 6)
      unfold peekR at hfi
      rw [if_pos hask] at hfi
      cases hf0 : ys.find? (kB ((Cof.get l (i : Int)).x.a % 3) ((Cof.get l (i : Int)).x.p % 6)) with
      | none =>
        have e1 := congrArg List.length (rm_none_of hf0)
        rw [hf0] at hfi
        dsimp only at hfi
        repeat' (first | (refine XL_id ?_; first | refine XL_nil ?_ | refine XL_guard_yes rfl rfl rfl ?_ | (refine XG_call ?_; first | (refine XL_op tt_ok rfl rfl ?_) | refine XL_callE [2] hfi rfl rfl rfl (fun _ _ _ => trivial) ?_) | (refine XG_alloc ?_; (refine XL_alloc tt_ok rfl rfl (fun _ => rfl) (fun b => ?_); refine XL_nB (by repeat' (first | exact .nil | apply NL.cons)) ?_)) | (refine XG_store ?_; (refine XL_storeW tt_ok 0 rfl rfl rfl rfl rfl rfl rfl ?_; refine XL_nK 0 rfl (by repeat' (first | exact .nil | apply NL.cons)) ?_)) | (refine XL_op tt_ok rfl rfl ?_; try (first | refine XL_dec_t (by omega) ?_ | refine XL_dec_f (by omega) ?_ | refine XL_dec (fun _ => ?_) (fun _ => ?_)))) | (refine X_id ?_; first | refine X_seq ?_ | (refine X_regionN (by repeat' (first | exact .nil | apply NL.cons)) ?_) | refine X_skip ?_ | refine X_ret ?_ | refine X_cond_t rfl ?_ | refine X_cond_f rfl ?_) | (refine Y_id ?_; first | refine Y_then ?_ | refine Y_then_ret ?_ | refine Y_block_normal ?_ | refine Y_block_ret ?_))
        all_goals first
          | exact Y_again (ys, A1, c1) fun _ _ hf hs => ⟨⟨hok, hok.len⟩, hf.sub (by (repeat' (first | exact trivial | refine And.intro rfl ?_)); done), hs.imp fun h hs => stars_only [0, 0] rfl h hs⟩
          | exact Y_again (ys, A1, c1) fun _ _ hf hs => ⟨⟨hok, hok.len⟩, hf.sub (by (repeat' (first | exact trivial | refine And.intro rfl ?_)); done), hs.imp fun h hs => stars_only [0, 1] rfl h hs⟩
          | exact Y_again (ys, A1, c1) fun _ _ hf hs => ⟨⟨hok, hok.len⟩, hf.sub (by (repeat' (first | exact trivial | refine And.intro rfl ?_)); done), hs.imp fun h hs => stars_only [1, 0] rfl h hs⟩
          | exact Y_again (ys, A1, c1) fun _ _ hf hs => ⟨⟨hok, hok.len⟩, hf.sub (by (repeat' (first | exact trivial | refine And.intro rfl ?_)); done), hs.imp fun h hs => stars_only [1, 1] rfl h hs⟩
          | exact Y_again (ys, A1, c1) fun _ _ hf hs => ⟨⟨hok, hok.len⟩, hf.sub (by (repeat' (first | exact trivial | refine And.intro rfl ?_)); done), hs.imp fun h hs => stars_only [1, 2] rfl h hs⟩
          | exact Y_again (ys, A1, c1) fun _ _ hf hs => ⟨⟨hok, hok.len⟩, hf.sub (by (repeat' (fail)); done), hs.imp fun h hs => stars_only [0, 2] rfl h hs⟩
          | (exfalso; rename_i h9; exact absurd rfl h9)
          | (exfalso; rename_i h9; exact h9 rfl)
          | (exfalso; rename_i h9; cases h9; done)
          | (exfalso; omega)
          | skip
        
      | some y0 =>
        have e1 := rm_lt hf0
        rw [hf0] at hfi
        dsimp only at hfi
        repeat' (first | (refine XL_id ?_; first | refine XL_nil ?_ | refine XL_guard_yes rfl rfl rfl ?_ | (refine XG_call ?_; first | (refine XL_op tt_ok rfl rfl ?_) | refine XL_callE [2] hfi rfl rfl rfl (fun _ _ _ => trivial) ?_) | (refine XG_alloc ?_; (refine XL_alloc tt_ok rfl rfl (fun _ => rfl) (fun b => ?_); refine XL_nB (by repeat' (first | exact .nil | apply NL.cons)) ?_)) | (refine XG_store ?_; (refine XL_storeW tt_ok 0 rfl rfl rfl rfl rfl rfl rfl ?_; refine XL_nK 0 rfl (by repeat' (first | exact .nil | apply NL.cons)) ?_)) | (refine XL_op tt_ok rfl rfl ?_; try (first | refine XL_dec_t (by omega) ?_ | refine XL_dec_f (by omega) ?_ | refine XL_dec (fun _ => ?_) (fun _ => ?_)))) | (refine X_id ?_; first | refine X_seq ?_ | (refine X_regionN (by repeat' (first | exact .nil | apply NL.cons)) ?_) | refine X_skip ?_ | refine X_ret ?_ | refine X_cond_t rfl ?_ | refine X_cond_f rfl ?_) | (refine Y_id ?_; first | refine Y_then ?_ | refine Y_then_ret ?_ | refine Y_block_normal ?_ | refine Y_block_ret ?_))
        all_goals first
          | exact Y_again (ys, A1, c1) fun _ _ hf hs => ⟨⟨hok, hok.len⟩, hf.sub (by (repeat' (first | exact trivial | refine And.intro rfl ?_)); done), hs.imp fun h hs => stars_only [0, 0] rfl h hs⟩
          | exact Y_again (ys, A1, c1) fun _ _ hf hs => ⟨⟨hok, hok.len⟩, hf.sub (by (repeat' (first | exact trivial | refine And.intro rfl ?_)); done), hs.imp fun h hs => stars_only [0, 1] rfl h hs⟩
          | exact Y_again (ys, A1, c1) fun _ _ hf hs => ⟨⟨hok, hok.len⟩, hf.sub (by (repeat' (first | exact trivial | refine And.intro rfl ?_)); done), hs.imp fun h hs => stars_only [1, 0] rfl h hs⟩
          | exact Y_again (ys, A1, c1) fun _ _ hf hs => ⟨⟨hok, hok.len⟩, hf.sub (by (repeat' (first | exact trivial | refine And.intro rfl ?_)); done), hs.imp fun h hs => stars_only [1, 1] rfl h hs⟩
          | exact Y_again (ys, A1, c1) fun _ _ hf hs => ⟨⟨hok, hok.len⟩, hf.sub (by (repeat' (first | exact trivial | refine And.intro rfl ?_)); done), hs.imp fun h hs => stars_only [1, 2] rfl h hs⟩
          | exact Y_again (ys, A1, c1) fun _ _ hf hs => ⟨⟨hok, hok.len⟩, hf.sub (by (repeat' (fail)); done), hs.imp fun h hs => stars_only [0, 2] rfl h hs⟩
          | (exfalso; rename_i h9; exact absurd rfl h9)
          | (exfalso; rename_i h9; exact h9 rfl)
          | (exfalso; rename_i h9; cases h9; done)
          | (exfalso; omega)
          | skip
        
    · have hmk := mark_is p n ys ((Cof.get l (i : Int)).x.a % 3) ((Cof.get l (i : Int)).x.p % 6)
      rw [hask] at hmk
      have hok2 := hok.markT ((Cof.get l (i : Int)).x.a % 3) ((Cof.get l (i : Int)).x.p % 6)
      have em : markT ys ((Cof.get l (i : Int)).x.a % 3) ((Cof.get l (i : Int)).x.p % 6) = ys.map (markX ((Cof.get l (i : Int)).x.a % 3) ((Cof.get l (i : Int)).x.p % 6)) := by unfold markT; rw [if_pos hask]
      rw [em] at hmk hok2
      have hhas : hasT ys ((Cof.get l (i : Int)).x.a % 3) ((Cof.get l (i : Int)).x.p % 6) = decide ((rm ((Cof.get l (i : Int)).x.a % 3) ((Cof.get l (i : Int)).x.p % 6) ys).length < ys.length) := by
        cases hf0 : ys.find? (kB ((Cof.get l (i : Int)).x.a % 3) ((Cof.get l (i : Int)).x.p % 6)) with
        | none => rw [hasT_none hask hf0, rm_none_of hf0]; simp
        | some y0 => rw [hasT_some hask hf0, decide_eq_true (rm_lt hf0)]
      rw [hhas] at hmk
      by_cases hl : (rm ((Cof.get l (i : Int)).x.a % 3) ((Cof.get l (i : Int)).x.p % 6) ys).length < ys.length
      all_goals first | rw [decide_eq_true hl] at hmk | rw [decide_eq_false hl] at hmk
      all_goals
        repeat' (first | (refine XL_id ?_; first | refine XL_nil ?_ | refine XL_guard_yes rfl rfl rfl ?_ | (refine XG_call ?_; first | (refine XL_op tt_ok rfl rfl ?_) | refine XL_callE [2] hmk rfl rfl rfl (fun _ _ _ => trivial) ?_) | (refine XL_op tt_ok rfl rfl ?_; try (first | refine XL_dec_t (by omega) ?_ | refine XL_dec_f (by omega) ?_))) | (refine X_id ?_; first | refine X_seq ?_ | (refine X_regionN (by repeat' (first | exact .nil | apply NL.cons)) ?_) | refine X_skip ?_ | refine X_block ?_ | refine X_cond_f rfl ?_) | (refine Y_id ?_; refine Y_then ?_))
      all_goals first
        | (exfalso; rename_i h9; exact absurd rfl h9)
        | (exfalso; rename_i h9; exact h9 rfl)
        | (exfalso; omega)
        | skip
      all_goals
        refine X_loopD4 [0, 1, 5, 7, 8, 9, 10] (fun (k : Nat) (A5 : Option Addr) (c5 : Nat) (zs : List Tr) => [(20, .int .i64 k), (11, .slice A5 zs.length c5)]) (fun _ A5 c5 zs => [own encTr A5 zs.length c5 zs, isTlb p n (ys.map (markX ((Cof.get l (i : Int)).x.a % 3) ((Cof.get l (i : Int)).x.p % 6))), own encTr A1 ys.length c1 ys, blk b [.int .i64 ((Cof.get l (i : Int)).x.a % 3), .int .i64 ((Cof.get l (i : Int)).x.p % 6), .int .i64 ((Cof.get l (i : Int)).x.f % 4096), .bool (Cof.get l (i : Int)).x.r, .bool (Cof.get l (i : Int)).x.w, .bool (Cof.get l (i : Int)).x.d] 31]) (fun k _ _ zs => k ≤ ys.length ∧ zs = (ys.take k).map (markX ((Cof.get l (i : Int)).x.a % 3) ((Cof.get l (i : Int)).x.p % 6))) (fun k _ _ _ => ys.length - k) 0 none 0 [] rfl ⟨Nat.zero_le _, rfl⟩ (by (repeat' (first | exact trivial | refine And.intro rfl ?_)); done) (fun h hs => stars_new (own_nil _ _) (stars_only [0, 1, 1] rfl h hs)) ?_
        intro k A5 c5 zs hk
        obtain ⟨hk, hz⟩ := hk
        have hzl : zs.length = k := by rw [hz, List.length_map, List.length_take]; omega
        by_cases hlt2 : k < ys.length
        · have hsn := take_snoc' ys k hlt2
          cases hd : (Cof.get ys k).d with
          | true =>
            have hst := mk2 (a := ((Cof.get l (i : Int)).x.a % 3)) (p := ((Cof.get l (i : Int)).x.p % 6)) hd
            repeat' (first | (refine XL_id ?_; first | refine XL_head (congrArg Value.bool hd) ?_ | refine XL_nil ?_ | refine XL_guard_no rfl rfl rfl rfl rfl ?_ | refine XL_guard_nou rfl rfl rfl rfl ?_ | (refine XG_load ?_; first | refine XL_loadW tt_ok 0 rfl rfl rfl rfl rfl rfl ?_ | refine XL_load tt_ok 0 rfl rfl rfl rfl rfl rfl ?_ | refine XL_eloW tt_ok 2 rfl rfl rfl (by omega) (by omega) rfl rfl rfl rfl ?_) | (refine XG_idx ?_; refine XL_idxo tt_ok 2 rfl rfl rfl rfl rfl rfl (by omega) (by omega) rfl ?_) | (refine XG_call ?_; first | (refine XL_op tt_ok rfl rfl ?_) | (refine XL_app1 tt_ok 2 0 ({ Cof.get ys k with d := true } : Tr) rfl rfl rfl rfl rfl rfl rfl rfl rfl rfl rfl (by show (_ : Nat) * 32 ≤ _; omega) (by omega) (fun _ _ => rfl) (fun A6 c6 => ?_))) | (refine XG_alloc ?_; (refine XL_alloc tt_ok rfl rfl (fun _ => rfl) (fun b => ?_); refine XL_nB (by repeat' (first | exact .nil | apply NL.cons)) ?_)) | (refine XG_lit ?_; (refine XL_lit tt_ok rfl rfl rfl rfl rfl rfl rfl rfl rfl (fun _ => rfl) (fun b => ?_); refine XL_nB (by repeat' (first | exact .nil | apply NL.cons)) ?_)) | (refine XG_store ?_; first | (refine XL_storeW tt_ok 0 rfl rfl rfl rfl rfl rfl rfl ?_; refine XL_nK 0 rfl (by repeat' (first | exact .nil | apply NL.cons)) ?_) | (refine XL_store tt_ok 0 rfl rfl rfl rfl rfl rfl rfl rfl ?_; refine XL_nK 0 rfl (by repeat' (first | exact .nil | apply NL.cons)) ?_)) | (refine XL_op tt_ok rfl rfl ?_; try (first | refine XL_int (wrap_i64 (by omega) (by omega)) ?_ | refine XL_dec_t (by omega) ?_))) | (refine X_id ?_; first | refine X_seq ?_ | (refine X_regionN (by repeat' (first | exact .nil | apply NL.cons)) ?_) | refine X_skip ?_ | refine X_block ?_ | refine X_cond_t rfl ?_) | (refine Y_id ?_; first | refine Y_then ?_ | refine Y_block_normal ?_))
            all_goals first
              | exact Y_again (k + 1, A6, c6, zs ++ [({ Cof.get ys k with d := true } : Tr)]) fun _ _ hf hs => ⟨⟨by show k + 1 ≤ ys.length; omega, by rw [hz, hsn, List.map_append, List.map_singleton, hst]⟩, by show ys.length - (k + 1) < ys.length - k; omega, hf.sub (by simp only [List.length_append, List.length_singleton]; exact (by (repeat' (first | exact trivial | refine And.intro rfl ?_)); done)), hs.imp fun h hs => by have h1 := stars_only [2, 2, 2, 2] rfl h hs; simpa using h1⟩
              | (exfalso; omega)
              | skip
            
          | false =>
            by_cases hkey : (Cof.get ys k).a = ((Cof.get l (i : Int)).x.a % 3) ∧ (Cof.get ys k).p = ((Cof.get l (i : Int)).x.p % 6)
            · have hst := mk1 hkey
              repeat' (first | (refine XL_id ?_; first | refine XL_head (congrArg Value.bool hd) ?_ | refine XL_nil ?_ | refine XL_guard_yes rfl rfl rfl ?_ | (refine XG_load ?_; first | refine XL_loadW tt_ok 0 rfl rfl rfl rfl rfl rfl ?_ | refine XL_load tt_ok 0 rfl rfl rfl rfl rfl rfl ?_ | refine XL_load tt_ok 4 rfl rfl rfl rfl rfl rfl ?_ | refine XL_eloW tt_ok 2 rfl rfl rfl (by omega) (by omega) rfl rfl rfl rfl ?_) | (refine XG_idx ?_; refine XL_idxo tt_ok 2 rfl rfl rfl rfl rfl rfl (by omega) (by omega) rfl ?_) | (refine XG_call ?_; first | (refine XL_op tt_ok rfl rfl ?_) | (refine XL_app1 tt_ok 2 0 ({ Cof.get ys k with d := true } : Tr) rfl rfl rfl rfl rfl rfl rfl rfl rfl rfl rfl (by show (_ : Nat) * 32 ≤ _; omega) (by omega) (fun _ _ => rfl) (fun A6 c6 => ?_))) | (refine XG_alloc ?_; (refine XL_alloc tt_ok rfl rfl (fun _ => rfl) (fun b => ?_); refine XL_nB (by repeat' (first | exact .nil | apply NL.cons)) ?_)) | (refine XG_lit ?_; (refine XL_lit tt_ok rfl rfl rfl rfl rfl rfl rfl rfl rfl (fun _ => rfl) (fun b => ?_); refine XL_nB (by repeat' (first | exact .nil | apply NL.cons)) ?_)) | (refine XG_store ?_; first | (refine XL_storeW tt_ok 0 rfl rfl rfl rfl rfl rfl rfl ?_; refine XL_nK 0 rfl (by repeat' (first | exact .nil | apply NL.cons)) ?_) | (refine XL_store tt_ok 0 rfl rfl rfl rfl rfl rfl rfl rfl ?_; refine XL_nK 0 rfl (by repeat' (first | exact .nil | apply NL.cons)) ?_)) | (refine XL_op tt_ok rfl rfl ?_; try (first | refine XL_int (wrap_i64 (by omega) (by omega)) ?_ | refine XL_dec_t (by omega) ?_))) | (refine X_id ?_; first | refine X_seq ?_ | (refine X_regionN (by repeat' (first | exact .nil | apply NL.cons)) ?_) | refine X_skip ?_ | refine X_block ?_ | refine X_cond_t rfl ?_) | (refine Y_id ?_; first | refine Y_then ?_ | refine Y_block_normal ?_))
              all_goals first
                | exact Y_again (k + 1, A6, c6, zs ++ [({ Cof.get ys k with d := true } : Tr)]) fun _ _ hf hs => ⟨⟨by show k + 1 ≤ ys.length; omega, by rw [hz, hsn, List.map_append, List.map_singleton, hst]⟩, by show ys.length - (k + 1) < ys.length - k; omega, hf.sub (by simp only [List.length_append, List.length_singleton]; exact (by (repeat' (first | exact trivial | refine And.intro rfl ?_)); done)), hs.imp fun h hs => by have h1 := stars_only [2, 2, 2, 2] rfl h hs; simpa using h1⟩
                | (exfalso; omega)
                | skip
              
            · have hst := mk3 hkey hd
              repeat' (first | (refine XL_id ?_; first | refine XL_head (congrArg Value.bool hd) ?_ | refine XL_nil ?_ | refine XL_guard_yes rfl rfl rfl ?_ | refine XL_guard_no rfl rfl rfl rfl rfl ?_ | (refine XG_load ?_; first | refine XL_loadW tt_ok 0 rfl rfl rfl rfl rfl rfl ?_ | refine XL_load tt_ok 0 rfl rfl rfl rfl rfl rfl ?_ | refine XL_load tt_ok 4 rfl rfl rfl rfl rfl rfl ?_ | refine XL_eloW tt_ok 2 rfl rfl rfl (by omega) (by omega) rfl rfl rfl rfl ?_) | (refine XG_idx ?_; refine XL_idxo tt_ok 2 rfl rfl rfl rfl rfl rfl (by omega) (by omega) rfl ?_) | (refine XG_call ?_; first | (refine XL_op tt_ok rfl rfl ?_) | (refine XL_app1 tt_ok 2 0 ({ Cof.get ys k with d := false } : Tr) rfl rfl rfl rfl rfl rfl rfl rfl rfl rfl rfl (by show (_ : Nat) * 32 ≤ _; omega) (by omega) (fun _ _ => rfl) (fun A6 c6 => ?_))) | (refine XG_alloc ?_; (refine XL_alloc tt_ok rfl rfl (fun _ => rfl) (fun b => ?_); refine XL_nB (by repeat' (first | exact .nil | apply NL.cons)) ?_)) | (refine XG_lit ?_; (refine XL_lit tt_ok rfl rfl rfl rfl rfl rfl rfl rfl rfl (fun _ => rfl) (fun b => ?_); refine XL_nB (by repeat' (first | exact .nil | apply NL.cons)) ?_)) | (refine XG_store ?_; first | (refine XL_storeW tt_ok 0 rfl rfl rfl rfl rfl rfl rfl ?_; refine XL_nK 0 rfl (by repeat' (first | exact .nil | apply NL.cons)) ?_) | (refine XL_store tt_ok 0 rfl rfl rfl rfl rfl rfl rfl rfl ?_; refine XL_nK 0 rfl (by repeat' (first | exact .nil | apply NL.cons)) ?_)) | (refine XL_op tt_ok rfl rfl ?_; try (first | refine XL_int (wrap_i64 (by omega) (by omega)) ?_ | refine XL_dec_t (by omega) ?_ | refine XL_dec_f (by omega) ?_ | refine XL_dec (fun _ => ?_) (fun _ => ?_)))) | (refine X_id ?_; first | refine X_seq ?_ | (refine X_regionN (by repeat' (first | exact .nil | apply NL.cons)) ?_) | refine X_skip ?_ | refine X_block ?_ | refine X_cond_t rfl ?_) | (refine Y_id ?_; first | refine Y_then ?_ | refine Y_block_normal ?_))
              all_goals first
                | exact Y_again (k + 1, A6, c6, zs ++ [({ Cof.get ys k with d := false } : Tr)]) fun _ _ hf hs => ⟨⟨by show k + 1 ≤ ys.length; omega, by rw [hz, hsn, List.map_append, List.map_singleton, hst]⟩, by show ys.length - (k + 1) < ys.length - k; omega, hf.sub (by simp only [List.length_append, List.length_singleton]; exact (by (repeat' (first | exact trivial | refine And.intro rfl ?_)); done)), hs.imp fun h hs => by have h1 := stars_only [2, 2, 2, 2] rfl h hs; simpa using h1⟩
                | (exfalso; omega)
                | skip
              
        · obtain rfl : k = ys.length := by omega
          rw [List.take_of_length_le (Nat.le_refl _)] at hz
          subst hz
          repeat' (first | (refine XL_id ?_; first | refine XL_nil ?_ | (refine XL_op tt_ok rfl rfl ?_; try (refine XL_dec_f (by omega) ?_))) | (refine X_id ?_; first | refine X_seq ?_ | (refine X_regionN (by repeat' (first | exact .nil | apply NL.cons)) ?_) | refine X_exit ?_ | refine X_cond_f rfl ?_) | (refine Y_id ?_; first | refine Y_then ?_ | refine Y_then_exit ?_ | refine Y_block_hit ?_ | refine Y_block_normal ?_))
          all_goals first
            | exact Y_again (ys.map (markX ((Cof.get l (i : Int)).x.a % 3) ((Cof.get l (i : Int)).x.p % 6)), A5, c5) fun _ _ hf hs => ⟨⟨hok2, hok2.len⟩, hf.sub (by (repeat' (first | exact trivial | refine And.intro rfl ?_)); done), hs.imp fun h hs => stars_only [1, 0] rfl h hs⟩
            | skip
          
    · have hdr := dropK_is p n ys ((Cof.get l (i : Int)).x.a % 3) ((Cof.get l (i : Int)).x.p % 6) hok.uniq
      rw [hask] at hdr
      have hok2 := hok.dropT ((Cof.get l (i : Int)).x.a % 3) ((Cof.get l (i : Int)).x.p % 6)
      have em : dropT ys ((Cof.get l (i : Int)).x.a % 3) ((Cof.get l (i : Int)).x.p % 6) = rm ((Cof.get l (i : Int)).x.a % 3) ((Cof.get l (i : Int)).x.p % 6) ys := by unfold dropT; rw [if_pos hask]
      rw [em] at hdr hok2
      cases hf0 : ys.find? (kB ((Cof.get l (i : Int)).x.a % 3) ((Cof.get l (i : Int)).x.p % 6)) with
      | none =>
        have e1 := congrArg List.length (rm_none_of hf0)
        rw [hasT_none hask hf0] at hdr
        repeat' (first | (refine XL_id ?_; first | refine XL_nil ?_ | refine XL_guard_yes rfl rfl rfl ?_ | (refine XG_call ?_; first | (refine XL_op tt_ok rfl rfl ?_) | refine XL_callE [2] hdr rfl rfl rfl (fun _ _ _ => trivial) ?_) | (refine XL_op tt_ok rfl rfl ?_; try (refine XL_dec_f (by omega) ?_))) | (refine X_id ?_; first | refine X_seq ?_ | (refine X_regionN (by repeat' (first | exact .nil | apply NL.cons)) ?_) | refine X_skip ?_ | refine X_cond_f rfl ?_) | (refine Y_id ?_; first | refine Y_then ?_ | refine Y_block_normal ?_))
        all_goals first
          | exact Y_again (rm ((Cof.get l (i : Int)).x.a % 3) ((Cof.get l (i : Int)).x.p % 6) ys, A2, c2) fun _ _ hf hs => ⟨⟨hok2, hok2.len⟩, hf.sub (by (repeat' (first | exact trivial | refine And.intro rfl ?_)); done), hs.imp fun h hs => stars_only [0, 0] rfl h hs⟩
          | exact Y_again (rm ((Cof.get l (i : Int)).x.a % 3) ((Cof.get l (i : Int)).x.p % 6) ys, A2, c2) fun _ _ hf hs => ⟨⟨hok2, hok2.len⟩, hf.sub (by (repeat' (fail)); done), hs.imp fun h hs => stars_only [0, 1] rfl h hs⟩
          | exact Y_again (rm ((Cof.get l (i : Int)).x.a % 3) ((Cof.get l (i : Int)).x.p % 6) ys, A2, c2) fun _ _ hf hs => ⟨⟨hok2, hok2.len⟩, hf.sub (by (repeat' (fail)); done), hs.imp fun h hs => stars_only [1, 0] rfl h hs⟩
          | exact Y_again (rm ((Cof.get l (i : Int)).x.a % 3) ((Cof.get l (i : Int)).x.p % 6) ys, A2, c2) fun _ _ hf hs => ⟨⟨hok2, hok2.len⟩, hf.sub (by (repeat' (fail)); done), hs.imp fun h hs => stars_only [1, 1] rfl h hs⟩
          | exact Y_again (rm ((Cof.get l (i : Int)).x.a % 3) ((Cof.get l (i : Int)).x.p % 6) ys, A2, c2) fun _ _ hf hs => ⟨⟨hok2, hok2.len⟩, hf.sub (by (repeat' (fail)); done), hs.imp fun h hs => stars_only [1, 2] rfl h hs⟩
          | exact Y_again (rm ((Cof.get l (i : Int)).x.a % 3) ((Cof.get l (i : Int)).x.p % 6) ys, A2, c2) fun _ _ hf hs => ⟨⟨hok2, hok2.len⟩, hf.sub (by (repeat' (fail)); done), hs.imp fun h hs => stars_only [0, 2] rfl h hs⟩
          | (exfalso; rename_i h9; exact absurd rfl h9)
          | (exfalso; rename_i h9; exact h9 rfl)
          | (exfalso; rename_i h9; cases h9; done)
          | (exfalso; omega)
        
      | some y0 =>
        have e1 := rm_lt hf0
        rw [hasT_some hask hf0] at hdr
        repeat' (first | (refine XL_id ?_; first | refine XL_nil ?_ | refine XL_guard_yes rfl rfl rfl ?_ | (refine XG_call ?_; first | (refine XL_op tt_ok rfl rfl ?_) | refine XL_callE [2] hdr rfl rfl rfl (fun _ _ _ => trivial) ?_) | (refine XL_op tt_ok rfl rfl ?_; try (first | refine XL_dec_t (by omega) ?_ | refine XL_dec_f (by omega) ?_))) | (refine X_id ?_; first | refine X_seq ?_ | (refine X_regionN (by repeat' (first | exact .nil | apply NL.cons)) ?_) | refine X_skip ?_ | refine X_cond_f rfl ?_) | (refine Y_id ?_; first | refine Y_then ?_ | refine Y_block_normal ?_))
        all_goals first
          | exact Y_again (rm ((Cof.get l (i : Int)).x.a % 3) ((Cof.get l (i : Int)).x.p % 6) ys, A2, c2) fun _ _ hf hs => ⟨⟨hok2, hok2.len⟩, hf.sub (by (repeat' (first | exact trivial | refine And.intro rfl ?_)); done), hs.imp fun h hs => stars_only [0, 0] rfl h hs⟩
          | exact Y_again (rm ((Cof.get l (i : Int)).x.a % 3) ((Cof.get l (i : Int)).x.p % 6) ys, A2, c2) fun _ _ hf hs => ⟨⟨hok2, hok2.len⟩, hf.sub (by (repeat' (fail)); done), hs.imp fun h hs => stars_only [0, 1] rfl h hs⟩
          | exact Y_again (rm ((Cof.get l (i : Int)).x.a % 3) ((Cof.get l (i : Int)).x.p % 6) ys, A2, c2) fun _ _ hf hs => ⟨⟨hok2, hok2.len⟩, hf.sub (by (repeat' (fail)); done), hs.imp fun h hs => stars_only [1, 0] rfl h hs⟩
          | exact Y_again (rm ((Cof.get l (i : Int)).x.a % 3) ((Cof.get l (i : Int)).x.p % 6) ys, A2, c2) fun _ _ hf hs => ⟨⟨hok2, hok2.len⟩, hf.sub (by (repeat' (fail)); done), hs.imp fun h hs => stars_only [1, 1] rfl h hs⟩
          | exact Y_again (rm ((Cof.get l (i : Int)).x.a % 3) ((Cof.get l (i : Int)).x.p % 6) ys, A2, c2) fun _ _ hf hs => ⟨⟨hok2, hok2.len⟩, hf.sub (by (repeat' (fail)); done), hs.imp fun h hs => stars_only [1, 2] rfl h hs⟩
          | exact Y_again (rm ((Cof.get l (i : Int)).x.a % 3) ((Cof.get l (i : Int)).x.p % 6) ys, A2, c2) fun _ _ hf hs => ⟨⟨hok2, hok2.len⟩, hf.sub (by (repeat' (fail)); done), hs.imp fun h hs => stars_only [0, 2] rfl h hs⟩
          | (exfalso; rename_i h9; exact absurd rfl h9)
          | (exfalso; rename_i h9; exact h9 rfl)
          | (exfalso; rename_i h9; cases h9; done)
          | (exfalso; omega)
          | skip
        
    · exact Y_again (i + 1, j.1) fun _ _ hf hs => ⟨⟨by show i + 1 ≤ m; omega, hj.1⟩, by show m - (i + 1) < m - i; omega, hf.sub (by (repeat' (first | exact trivial | refine And.intro rfl ?_)); done), hs.imp fun h hs => stars_only [1] rfl h hs⟩
    
  · repeat' (first | (refine XL_id ?_; first | refine XL_nil ?_ | refine XL_guard_yes rfl rfl rfl ?_ | refine XL_guard_no rfl rfl rfl rfl rfl ?_ | (refine XL_op tt_ok rfl rfl ?_; try (first | refine XL_dec_f (by omega) ?_ | refine XL_dec (fun _ => ?_) (fun _ => ?_)))) | (refine X_id ?_; first | refine X_seq ?_ | (refine X_regionN (by repeat' (first | exact .nil | apply NL.cons)) ?_) | refine X_ret ?_ | refine X_exit ?_ | refine X_cond_f rfl ?_) | (refine Y_id ?_; first | refine Y_then ?_ | refine Y_then_exit ?_ | refine Y_block_hit ?_))
    all_goals first
      | exact Y_fn1 rfl rfl rfl
      | (exfalso; omega)
      | skip
    
end Go.Proofs.Ytocilbkjbikeeaa
