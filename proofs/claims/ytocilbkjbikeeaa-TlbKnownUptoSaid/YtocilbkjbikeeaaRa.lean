/- Walks of the reference's TLB. -/
import Derived.Test.YtocilbkjbikeeaaWe
set_option linter.unusedVariables false
namespace Go.Proofs.Ytocilbkjbikeeaa
open Go.RowKit Go.Cof

abbrev refB (p : Nat) (n : Int) (A : Option Addr) (m c : Nat) : HProp := blk p [.int .i64 n, .slice A m c] 74
def isRef (p : Nat) (n : Int) (ys : List Tr) : HProp := fun h => ∃ x : Option Addr × Nat, TOk n ys ∧ stars [refB p n x.1 ys.length x.2, own encTr x.1 ys.length x.2 ys] h
theorem isRef_mk {p : Nat} {n : Int} {A : Option Addr} {m c : Nat} {l : List Tr} (ys : List Tr) (hok : TOk n ys) (hm : m = ys.length) (hl : l = ys) : ∀ h, stars [refB p n A m c, own encTr A m c l] h → isRef p n ys h := fun h hs => by
  subst hm hl
  exact ⟨(A, c), hok, hs⟩
theorem within_spec (x a b : Int) : FnC Try.prog 37 [.int .i64 x, .int .i64 a, .int .i64 b] (fun _ => True) (.bool (decide (a ≤ x ∧ x ≤ b))) := by
  refine Ctr.intro Try.func37 rfl rfl (by decide +kernel) fun F hpre => ?_
  repeat' (first | (refine XL_id ?_; first | refine XL_nil ?_ | refine XL_guard_yes rfl rfl rfl ?_ | refine XL_guard_no rfl rfl rfl rfl rfl ?_ | (refine XL_op tt_ok rfl rfl ?_; try (refine XL_dec (fun _ => ?_) (fun _ => ?_)))) | (refine X_id ?_; first | refine X_seq ?_ | (refine X_regionN (by repeat' (exact .nil)) ?_) | refine X_ret ?_) | (refine Y_id ?_; refine Y_then ?_))
  all_goals (refine Y_fn1 rfl rfl ?_)
  all_goals (first | exact bool_t (by omega) | exact bool_f (by omega))
theorem rnew_ok (n : Int) (h1 : 1 ≤ n) (h2 : n ≤ 64) : Ctr Try.prog 23 [.int .i64 n] (fun _ => True) [] (fun v L => ∃ p, v = .tuple #[ptr p, .int .i64 0] ∧ L = [isRef p n []]) := by
  refine Ctr.intro Try.func23 rfl rfl (by decide +kernel) fun F hpre => ?_
  repeat' (first | (refine XL_id ?_; first | refine XL_nil ?_ | (refine XG_box ?_; (refine XL_box rfl (fun _ => rfl) (fun _ => ?_); refine XL_nB (by repeat' (first | exact .nil | apply NL.cons)) ?_)) | (refine XG_build ?_; (refine XL_build tt_ok rfl rfl rfl rfl rfl rfl rfl ?_; refine XL_aggN (by repeat' (first | exact .nil | apply NL.cons)) ?_)) | (refine XG_call ?_; (refine XL_fn (within_spec _ _ _) rfl rfl (fun _ _ _ => trivial) ?_; refine XL_dec (fun _ => ?_) (fun _ => ?_))) | (refine XL_op tt_ok rfl rfl ?_)) | (refine X_id ?_; first | refine X_seq ?_ | (refine X_regionN (by repeat' (exact .nil)) ?_) | refine X_skip ?_ | refine X_ret ?_ | refine X_cond_t rfl ?_ | refine X_cond_f rfl ?_) | (refine Y_id ?_; first | refine Y_then ?_ | refine Y_then_ret ?_))
  all_goals first
    | exact Y_ret2 rfl rfl rfl (stars_fin [0] rfl fun h hs => ⟨(none, 0), TOk.nil h1 h2, by obtain ⟨g1, g2, d, a, b, hA, hB⟩ := hs; exact ⟨g1, g2, d, a, b, hA, stars_new (own_nil _ _) hB⟩⟩) ⟨_, rfl, rfl⟩
    | (exfalso; omega)
    | skip
  
theorem rnew_bad (n : Int) (h : n < 1 ∨ 64 < n) : FnC Try.prog 23 [.int .i64 n] (fun _ => True) (.tuple #[.pointer none, .int .i64 2]) := by
  refine Ctr.intro Try.func23 rfl rfl (by decide +kernel) fun F hpre => ?_
  repeat' (first | (refine XL_id ?_; first | refine XL_nil ?_ | (refine XG_box ?_; (refine XL_box rfl (fun _ => rfl) (fun _ => ?_); refine XL_nB (by repeat' (first | exact .nil | apply NL.cons)) ?_)) | (refine XG_build ?_; (refine XL_build tt_ok rfl rfl rfl rfl rfl rfl rfl ?_; refine XL_aggN (by repeat' (first | exact .nil | apply NL.cons)) ?_)) | (refine XG_call ?_; (refine XL_fn (within_spec _ _ _) rfl rfl (fun _ _ _ => trivial) ?_; refine XL_dec (fun _ => ?_) (fun _ => ?_))) | (refine XL_op tt_ok rfl rfl ?_)) | (refine X_id ?_; first | refine X_seq ?_ | (refine X_regionN (by repeat' (exact .nil)) ?_) | refine X_skip ?_ | refine X_ret ?_ | refine X_cond_t rfl ?_ | refine X_cond_f rfl ?_) | (refine Y_id ?_; first | refine Y_then ?_ | refine Y_then_ret ?_))
  all_goals first
    | exact Y_fn2 rfl rfl rfl rfl
    | (exfalso; omega)
theorem rasked_spec (p : Nat) (n : Int) (A : Option Addr) (m c : Nat) (a pg : Int) (hn : n ≠ 0) : FnC Try.prog 52 [ptr p, .int .i64 a, .int .i64 pg] (refB p n A m c) (.int .i64 (askE a pg)) := by
  refine Ctr.intro Try.func52 rfl rfl (by decide +kernel) fun F hpre => ?_
  by_cases h : 0 ≤ a ∧ a < 128 ∧ 0 ≤ pg ∧ pg < 1048576
  · rw [show askE a pg = 0 from if_pos h]
    repeat' (first | (refine XL_id ?_; first | refine XL_nil ?_ | refine XL_guard_yes rfl rfl rfl ?_ | refine XL_guard_no rfl rfl rfl rfl rfl ?_ | (refine XG_load ?_; refine XL_loadF tt_ok rfl (by assumption) rfl rfl rfl rfl ?_) | (refine XG_call ?_; (refine XL_fn (within_spec _ _ _) rfl rfl (fun _ _ _ => trivial) ?_; refine XL_dec (fun _ => ?_) (fun _ => ?_))) | (refine XL_op tt_ok rfl rfl ?_; try (refine XL_dec_f (by omega) ?_))) | (refine X_id ?_; first | refine X_seq ?_ | (refine X_regionN (by repeat' (exact .nil)) ?_) | refine X_skip ?_ | refine X_ret ?_ | refine X_cond_t rfl ?_ | refine X_cond_f rfl ?_) | (refine Y_id ?_; first | refine Y_then ?_ | refine Y_then_ret ?_))
    all_goals first
      | exact Y_fn1 rfl rfl rfl
      | (exfalso; omega)
  · rw [show askE a pg = 2 from if_neg h]
    repeat' (first | (refine XL_id ?_; first | refine XL_nil ?_ | refine XL_guard_yes rfl rfl rfl ?_ | refine XL_guard_no rfl rfl rfl rfl rfl ?_ | (refine XG_load ?_; refine XL_loadF tt_ok rfl (by assumption) rfl rfl rfl rfl ?_) | (refine XG_call ?_; (refine XL_fn (within_spec _ _ _) rfl rfl (fun _ _ _ => trivial) ?_; refine XL_dec (fun _ => ?_) (fun _ => ?_))) | (refine XL_op tt_ok rfl rfl ?_; try (refine XL_dec_f (by omega) ?_))) | (refine X_id ?_; first | refine X_seq ?_ | (refine X_regionN (by repeat' (exact .nil)) ?_) | refine X_skip ?_ | refine X_ret ?_ | refine X_cond_t rfl ?_ | refine X_cond_f rfl ?_) | (refine Y_id ?_; first | refine Y_then ?_ | refine Y_then_ret ?_))
    all_goals first
      | exact Y_fn1 rfl rfl rfl
      | (exfalso; omega)
set_option maxHeartbeats 4000000 in
theorem rat_spec (p : Nat) (n : Int) (A : Option Addr) (m c : Nat) (ys : List Tr) (a pg : Int) (hm : m ≤ 100000) : FnC Try.prog 51 [ptr p, .int .i64 a, .int .i64 pg] (fun h => refB p n A m c h ∧ rdS encTr h A m ys) (.int .i64 (idxI (kB a pg) ys)) := by
  refine Ctr.intro Try.func51 rfl rfl (by decide +kernel) fun F hpre => ?_
  obtain ⟨hb, hr⟩ := hpre
  have hlen := hr.1
  have hfl := firstQ_le (kB a pg) ys
  repeat' (first | (refine XL_id ?_; first | refine XL_nil ?_ | (refine XL_op tt_ok rfl rfl ?_)) | (refine X_id ?_; first | refine X_seq ?_ | (refine X_regionN (by repeat' (exact .nil)) ?_) | refine X_block ?_) | (refine Y_id ?_; refine Y_then ?_))
  refine X_loopD [0, 1, 2] (fun (i : Nat) => [(7, .int .i64 i)]) (fun _ => []) (fun i => i ≤ m ∧ ∀ j : Nat, j < i → kB a pg (Cof.get ys j) = false) (fun i => m - i) 0 rfl ⟨Nat.zero_le _, fun j hj => by omega⟩ (by (repeat' (first | exact trivial | refine And.intro rfl ?_)); done) (fun _ h => h) ?_
  intro i hi
  obtain ⟨hi, hx⟩ := hi
  by_cases hlt : i < m
  · by_cases hqi : (Cof.get ys i).a = a ∧ (Cof.get ys i).p = pg
    · have e := firstQ_eq (i := i) (by omega) hx (fun _ => kB_iff.2 hqi)
      repeat' (first | (refine XL_id ?_; first | refine XL_nil ?_ | refine XL_guard_yes rfl rfl rfl ?_ | (refine XG_load ?_; first | refine XL_loadF tt_ok rfl (by assumption) rfl rfl rfl rfl ?_ | refine XL_el tt_ok rfl (by assumption) rfl (by omega) (by omega) rfl rfl rfl rfl ?_ | refine XL_elf tt_ok rfl (by assumption) rfl (by omega) (by omega) rfl rfl rfl rfl ?_) | (refine XG_idx ?_; refine XL_idx tt_ok rfl rfl rfl rfl rfl (by assumption) (by omega) (by omega) rfl ?_) | (refine XL_op tt_ok rfl rfl ?_; try (refine XL_dec_t (by omega) ?_))) | (refine X_id ?_; first | refine X_seq ?_ | (refine X_regionN (by repeat' (exact .nil)) ?_) | refine X_skip ?_ | refine X_ret ?_ | refine X_block ?_ | refine X_cond_t rfl ?_) | (refine Y_id ?_; first | refine Y_then ?_ | refine Y_then_ret ?_ | refine Y_block_ret ?_))
      all_goals first
        | exact Y_fn1 rfl rfl (by unfold idxI; rw [e, if_pos (by omega)])
        | (exfalso; omega)
        | skip
      
    · have hqf : kB a pg (Cof.get ys i) = false := by
        cases hk : kB a pg (Cof.get ys i) with
        | false => rfl
        | true => exact absurd (kB_iff.1 hk) hqi
      repeat' (first | (refine XL_id ?_; first | refine XL_nil ?_ | refine XL_guard_yes rfl rfl rfl ?_ | refine XL_guard_no rfl rfl rfl rfl rfl ?_ | (refine XG_load ?_; first | refine XL_loadF tt_ok rfl (by assumption) rfl rfl rfl rfl ?_ | refine XL_el tt_ok rfl (by assumption) rfl (by omega) (by omega) rfl rfl rfl rfl ?_ | refine XL_elf tt_ok rfl (by assumption) rfl (by omega) (by omega) rfl rfl rfl rfl ?_) | (refine XG_idx ?_; refine XL_idx tt_ok rfl rfl rfl rfl rfl (by assumption) (by omega) (by omega) rfl ?_) | (refine XL_op tt_ok rfl rfl ?_; try (first | refine XL_int (wrap_i64 (by omega) (by omega)) ?_ | refine XL_dec_t (by omega) ?_ | refine XL_dec_f (by omega) ?_ | refine XL_dec (fun _ => ?_) (fun _ => ?_)))) | (refine X_id ?_; first | refine X_seq ?_ | (refine X_regionN (by repeat' (exact .nil)) ?_) | refine X_skip ?_ | refine X_block ?_ | refine X_cond_t rfl ?_ | refine X_cond_f rfl ?_) | (refine Y_id ?_; first | refine Y_then ?_ | refine Y_block_normal ?_))
      all_goals first
        | exact Y_again (i + 1) fun _ _ hf hs => ⟨⟨by omega, fun j hj => by
            by_cases hj2 : j < i
            · exact hx j hj2
            · obtain rfl : j = i := by omega
              exact hqf⟩, by omega, hf.sub (by (repeat' (first | exact trivial | refine And.intro rfl ?_)); done), hs⟩
        | (exfalso; omega)
        | skip
      
  · obtain rfl : i = m := by omega
    have e := firstQ_eq (l := ys) (i := i) (by omega) hx (fun _ => by omega)
    repeat' (first | (refine XL_id ?_; first | refine XL_nil ?_ | (refine XG_load ?_; refine XL_loadF tt_ok rfl (by assumption) rfl rfl rfl rfl ?_) | (refine XL_op tt_ok rfl rfl ?_; try (refine XL_dec_f (by omega) ?_))) | (refine X_id ?_; first | refine X_seq ?_ | (refine X_regionN (by repeat' (exact .nil)) ?_) | refine X_ret ?_ | refine X_exit ?_ | refine X_cond_f rfl ?_) | (refine Y_id ?_; first | refine Y_then ?_ | refine Y_then_exit ?_ | refine Y_block_hit ?_))
    exact Y_fn1 rfl rfl (by unfold idxI; rw [e, if_neg (by omega)])
def wo (l : List Tr) (at_ : Int) : List Tr := if 0 ≤ at_ then l.eraseIdx at_.toNat else l
theorem wo_same {l : List Tr} {i : Nat} (h : i < l.length) : wo (l.take (i + 1)) i = wo (l.take i) i := by
  unfold wo
  rw [if_pos (by omega), Int.toNat_natCast, take_snoc' _ _ h, if_pos (by omega), List.eraseIdx_append_of_length_le (by rw [List.length_take]; omega), List.length_take, Nat.min_eq_left (by omega), Nat.sub_self, List.eraseIdx_of_length_le (l := l.take i) (by rw [List.length_take]; omega)]
  simp
theorem wo_other {l : List Tr} {i : Nat} {at_ : Int} (h : i < l.length) (hne : (i : Int) ≠ at_) : wo (l.take (i + 1)) at_ = wo (l.take i) at_ ++ [Cof.get l i] := by
  unfold wo
  rw [take_snoc' _ _ h]
  by_cases h0 : 0 ≤ at_
  · rw [if_pos h0, if_pos h0]
    by_cases h1 : at_.toNat < i
    · rw [List.eraseIdx_append_of_lt_length (by rw [List.length_take]; omega)]
    · rw [List.eraseIdx_of_length_le (by rw [List.length_append, List.length_take, List.length_singleton]; omega), List.eraseIdx_of_length_le (by rw [List.length_take]; omega)]
  · rw [if_neg h0, if_neg h0]
set_option maxHeartbeats 4000000 in
theorem without_spec (A : Option Addr) (m c : Nat) (ys : List Tr) (at_ : Int) (hm : m ≤ 100000) : Ctr Try.prog 45 [.slice A m c, .int .i64 at_] (fun h => rdS encTr h A m ys) [] (fun v L => ∃ A' c', v = .slice A' (wo ys at_).length c' ∧ L = [own encTr A' (wo ys at_).length c' (wo ys at_)]) := by
  refine Ctr.intro Try.func45 rfl rfl (by decide +kernel) fun F hpre => ?_
  have r1 : rdS encTr F.heap A m ys := hpre
  have hlen := r1.1
  repeat' (first | (refine XL_id ?_; first | refine XL_nil ?_ | (refine XL_op tt_ok rfl rfl ?_)) | (refine X_id ?_; first | refine X_seq ?_ | (refine X_regionN (by repeat' (exact .nil)) ?_) | refine X_block ?_) | (refine Y_id ?_; refine Y_then ?_))
  refine X_loopD4 [0, 1] (fun (i : Nat) (A2 : Option Addr) (c2 : Nat) (zs : List Tr) => [(6, .int .i64 i), (5, .slice A2 zs.length c2)]) (fun _ A2 c2 zs => [own encTr A2 zs.length c2 zs]) (fun i A2 c2 zs => i ≤ m ∧ zs = wo (ys.take i) at_) (fun i _ _ _ => m - i) 0 none 0 [] rfl ⟨Nat.zero_le _, by unfold wo; split <;> rfl⟩ (by (repeat' (first | exact trivial | refine And.intro rfl ?_)); done) (fun h hs => stars_new (own_nil _ _) hs) ?_
  intro i A2 c2 zs hi
  obtain ⟨hi, hz⟩ := hi
  have hzl : zs.length ≤ i := by
    rw [hz]
    unfold wo
    split
    · exact Nat.le_trans (List.length_eraseIdx_le _ _) (List.length_take_le _ _)
    · exact List.length_take_le _ _
  by_cases hlt : i < m
  · by_cases hne : (i : Int) = at_
    · have hw := wo_same (l := ys) (i := i) (by omega)
      repeat' (first | (refine XL_id ?_; first | refine XL_nil ?_ | (refine XL_op tt_ok rfl rfl ?_; try (first | refine XL_int (wrap_i64 (by omega) (by omega)) ?_ | refine XL_dec_t (by omega) ?_ | refine XL_dec_f (by omega) ?_))) | (refine X_id ?_; first | refine X_seq ?_ | (refine X_regionN (by repeat' (first | exact .nil | apply NL.cons)) ?_) | refine X_skip ?_ | refine X_block ?_ | refine X_cond_t rfl ?_ | refine X_cond_f rfl ?_) | (refine Y_id ?_; first | refine Y_then ?_ | refine Y_block_normal ?_))
      all_goals first
        | exact Y_again (i + 1, A2, c2, zs) fun _ _ hf hs => ⟨⟨by show i + 1 ≤ m; omega, by rw [hz, ← hne]; exact hw.symm⟩, by show m - (i + 1) < m - i; omega, hf.sub (by (repeat' (first | exact trivial | refine And.intro rfl ?_)); done), hs⟩
        | (exfalso; omega)
        | skip
      
    · have hw := wo_other (l := ys) (i := i) (by omega) hne
      repeat' (first | (refine XL_id ?_; first | refine XL_nil ?_ | (refine XG_load ?_; refine XL_elW tt_ok rfl (by assumption) rfl (by omega) (by omega) rfl rfl rfl rfl ?_) | (refine XG_idx ?_; refine XL_idx tt_ok rfl rfl rfl rfl rfl (by assumption) (by omega) (by omega) rfl ?_) | (refine XG_call ?_; first | (refine XL_op tt_ok rfl rfl ?_) | (refine XL_app1 tt_ok 1 0 (Cof.get ys i) rfl rfl rfl rfl rfl rfl rfl rfl rfl rfl rfl (by show (_ : Nat) * 32 ≤ _; omega) (by omega) (fun _ _ => rfl) (fun A3 c3 => ?_))) | (refine XG_lit ?_; (refine XL_lit tt_ok rfl rfl rfl rfl rfl rfl rfl rfl rfl (fun _ => rfl) (fun b => ?_); refine XL_nB (by repeat' (first | exact .nil | apply NL.cons)) ?_)) | (refine XL_op tt_ok rfl rfl ?_; try (first | refine XL_int (wrap_i64 (by omega) (by omega)) ?_ | refine XL_dec_t (by omega) ?_))) | (refine X_id ?_; first | refine X_seq ?_ | (refine X_regionN (by repeat' (first | exact .nil | apply NL.cons)) ?_) | refine X_skip ?_ | refine X_block ?_ | refine X_cond_t rfl ?_) | (refine Y_id ?_; first | refine Y_then ?_ | refine Y_block_normal ?_))
      all_goals first
        | exact Y_again (i + 1, A3, c3, zs ++ [Cof.get ys i]) fun _ _ hf hs => ⟨⟨by show i + 1 ≤ m; omega, by rw [hw, ← hz]⟩, by show m - (i + 1) < m - i; omega, hf.sub (by simp only [List.length_append, List.length_singleton]; exact (by (repeat' (first | exact trivial | refine And.intro rfl ?_)); done)), hs.imp fun h hs => by have h1 := stars_only [1] rfl h hs; simpa using h1⟩
        | (exfalso; omega)
        | skip
      
  · obtain rfl : i = m := by omega
    rw [List.take_of_length_le (by omega)] at hz
    subst hz
    repeat' (first | (refine XL_id ?_; first | refine XL_nil ?_ | (refine XL_op tt_ok rfl rfl ?_; try (refine XL_dec_f (by omega) ?_))) | (refine X_id ?_; first | refine X_seq ?_ | (refine X_regionN (by repeat' (first | exact .nil | apply NL.cons)) ?_) | refine X_ret ?_ | refine X_exit ?_ | refine X_cond_f rfl ?_) | (refine Y_id ?_; first | refine Y_then ?_ | refine Y_then_exit ?_ | refine Y_block_hit ?_))
    exact Y_ret1 rfl rfl (fun _ h => h) ⟨A2, c2, rfl, rfl⟩
theorem front_spec (x : Tr) (A : Option Addr) (m c : Nat) (ys : List Tr) (hm : m ≤ 100000) : Ctr Try.prog 50 [trV x, .slice A m c] (fun h => rdS encTr h A m ys) [] (fun v L => ∃ A' c', v = .slice A' (m + 1) c' ∧ L = [own encTr A' (m + 1) c' (x :: ys)]) := by
  refine Ctr.intro Try.func50 rfl rfl (by decide +kernel) fun F hpre => ?_
  have r1 : rdS encTr F.heap A m ys := hpre
  repeat' (first | (refine XL_id ?_; first | refine XL_nil ?_ | (refine XL_conv 0 (own encTr (some ⟨_, 0, none⟩) 1 1 [x]) rfl (fun h o => own_of_blk o rfl rfl (by decide)) ?_; refine XL_appF tt_ok 0 rfl rfl r1 rfl rfl rfl rfl rfl rfl rfl (by show (_ : Nat) * 32 ≤ _; omega) (by omega) (fun _ _ => rfl) (fun A1 c1 => ?_)) | (refine XG_load ?_; refine XL_loadW tt_ok 0 rfl rfl rfl rfl rfl rfl ?_) | (refine XG_box ?_; (refine XL_box rfl (fun _ => rfl) (fun _ => ?_); refine XL_nB (by repeat' (first | exact .nil | apply NL.cons)) ?_)) | (refine XG_lit ?_; (refine XL_lit tt_ok rfl rfl rfl rfl rfl rfl rfl rfl rfl (fun _ => rfl) (fun b => ?_); refine XL_nB (by repeat' (first | exact .nil | apply NL.cons)) ?_)) | (refine XL_op tt_ok rfl rfl ?_)) | (refine X_id ?_; first | refine X_seq ?_ | (refine X_regionN (by repeat' (first | exact .nil | apply NL.cons)) ?_) | refine X_ret ?_) | (refine Y_id ?_; refine Y_then ?_))
  all_goals first
    | exact Y_ret1 rfl rfl (stars_fin [0] rfl fun h hs => (by have h1 := stars_own hs; rw [Nat.add_comm] at h1; exact h1)) ⟨A1, c1, by rw [Nat.add_comm], rfl⟩
    | skip
  
end Go.Proofs.Ytocilbkjbikeeaa
