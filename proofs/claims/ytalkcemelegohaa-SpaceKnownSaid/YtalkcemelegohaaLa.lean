/- Walks of the laws' helpers: same, spare, kept, spoil. -/
import Derived.Test.YtalkcemelegohaaSk
import Derived.Test.YtalkcemelegohaaSlS
set_option linter.unusedVariables false
set_option maxRecDepth 100000
namespace Go.Proofs.Ytalkcemelegohaa
open Go.RowKit Go.Cof
open Vm (Rg encRg rgV)

theorem eqRg : EqE Try.prog Tt 73 encRg := EqE.ofT tt_ok [73] (by decide +kernel) (by kernel_rfl) 3 rfl fun a b => by
  show some (decide (a.p = b.p) && (decide (a.n = b.n) && (decide (a.m = b.m) && true))) = _
  refine congrArg some ?_
  obtain ⟨p, n, m⟩ := a
  obtain ⟨p', n', m'⟩ := b
  by_cases h1 : p = p' <;> by_cases h2 : n = n' <;> by_cases h3 : m = m' <;> simp [h1, h2, h3]
theorem eq_prefix {α : Type} [Inhabited α] {xs ys : List α} (h : xs.length = ys.length) : xs = ys ↔ ∀ j : Nat, j < xs.length → Cof.get xs j = Cof.get ys j := by
  constructor
  · rintro rfl j _; rfl
  · intro hj
    refine List.ext_getElem h fun i h1 h2 => ?_
    have := hj i h1
    rwa [Vm.get_eq h1, Vm.get_eq h2] at this
set_option maxHeartbeats 8000000 in
theorem same_spec (A B : Option Addr) (m c m' c' : Nat) (xs ys : List Rg) (h h' : Int) (hm : m ≤ 9223372036854775806) (hm' : m' ≤ 9223372036854775806) : FnC Try.prog 12 [.agg #[.slice A m c, iV h], .agg #[.slice B m' c', iV h']] (fun g => rdS encRg g A m xs ∧ rdS encRg g B m' ys) (.bool (decide (h = h' ∧ xs = ys))) := by
  by_cases hh : h = h'
  · by_cases hmm : m = m'
    · subst hmm; subst hh
      refine Ctr.intro Try.func12 rfl rfl (by decide +kernel) fun F hpre => ?_
      have r1 : rdS encRg F.heap A m xs := hpre.1
      have r2 : rdS encRg F.heap B m ys := hpre.2
      have hl1 := r1.1
      have hl2 := r2.1
      have hll : xs.length = ys.length := by omega
      repeat' (first | (refine XL_id ?_; first | refine XL_nil ?_ | refine XL_guard_yes rfl rfl rfl ?_ | (refine XG_load ?_; first | refine XL_load tt_ok 0 rfl rfl rfl rfl rfl rfl ?_ | refine XL_load tt_ok 1 rfl rfl rfl rfl rfl rfl ?_) | (refine XG_box ?_; (refine XL_box rfl (fun _ => rfl) (fun _ => ?_); refine XL_nB (by repeat' (first | exact .nil | apply NL.cons)) ?_)) | (refine XL_op tt_ok rfl rfl ?_; try (refine XL_dec_f (by omega) ?_))) | (refine X_id ?_; first | refine X_seq ?_ | (refine X_regionN (by repeat' (first | exact .nil | apply NL.cons)) ?_) | refine X_skip ?_ | refine X_block ?_ | refine X_cond_f rfl ?_) | (refine Y_id ?_; refine Y_then ?_))
      all_goals first
        | (rename_i h9; exact absurd rfl h9)
        | (exfalso; omega)
        | skip
      refine X_loopD [2, 3] (fun (i : Nat) => [(5, .int .i64 i)]) (fun _ => [_, _]) (fun i => i ≤ m ∧ ∀ j : Nat, j < i → Cof.get xs j = Cof.get ys j) (fun i => m - i) 0 rfl ⟨Nat.zero_le _, fun j hj => by omega⟩ (by (repeat' (first | exact trivial | refine And.intro rfl ?_)); done) (fun h hs => hs) ?_
      intro i hi
      obtain ⟨hi, hx⟩ := hi
      by_cases hlt : i < m
      · repeat' (first | (refine XL_id ?_; first | refine XL_nil ?_ | (refine XG_load ?_; refine XL_load tt_ok 1 rfl rfl rfl rfl rfl rfl ?_) | (refine XL_op tt_ok rfl rfl ?_; try (first | refine XL_int (wrap_i64 (by omega) (by omega)) ?_ | refine XL_dec_t (by omega) ?_))) | (refine XD_id ?_; first | (refine XD_thaw thaw ?_; refine XD_nil ?_) | (refine XD_id ?_; (first | (refine XD_uL rfl ?_; first | refine XD_s rfl rfl rfl (XV_load tt_ok rfl (blk_at 0 rfl hM) rfl rfl rfl) rfl ?_ | refine XD_s rfl rfl rfl (XV_load tt_ok rfl (blk_at 1 rfl hM) rfl rfl rfl) rfl ?_ | refine XD_s rfl rfl rfl (XV_elW tt_ok rfl (rdS.le (by assumption) hFG) rfl (by omega) (by omega) rfl rfl rfl) rfl ?_) | (refine XD_uI rfl ?_; refine XD_s rfl rfl rfl (XV_idx tt_ok rfl rfl rfl rfl rfl (rdS.le (by assumption) hFG) (by omega) (by omega)) rfl ?_) | (refine XD_u rfl rfl ?_; first | refine XD_s rfl rfl rfl (XV_op tt_ok rfl) rfl ?_ | refine XD_s rfl rfl rfl (XV_neq eqRg rfl rfl) rfl ?_)); try (refine XD_dec (fun _ => ?_) (fun _ => ?_)))) | (refine X_id ?_; first | (refine X_drawS (id := 6) [0, 1, 2, 3, 4, 5, 6, 7, 8, 9, 10] (fun _ => .s) 8 (by repeat' (first | exact Split.nil | apply Split.blk)) mixed (by decide +kernel) ?_; intro G hFG hM thaw; show XD _ _ _ _ _ _ [0, 1, 2, 3, 4, 5, 6, 7, 8, 9, 10] _ _ _) | refine X_seq ?_ | (refine X_regionN (by repeat' (first | exact .nil | apply NL.cons)) ?_) | refine X_skip ?_ | refine X_ret ?_ | refine X_block ?_ | refine X_cond_t rfl ?_ | refine X_cond_f rfl ?_) | (refine Y_id ?_; first | refine Y_then ?_ | refine Y_then_ret ?_ | refine Y_block_normal ?_ | refine Y_block_ret ?_))
        all_goals first
          | exact Y_fn1 rfl rfl (bool_f fun h => by have h := h.2; rw [eq_prefix hll] at h; exact absurd (h i (by omega)) (by assumption))
          | exact Y_again (i + 1) fun _ _ hf hs => ⟨⟨by omega, Vm.upto_succ hx (Decidable.of_not_not (by assumption))⟩, by omega, hf.sub (by (repeat' (fail)); done), trivial_parts hs⟩
          | exact Y_again (i + 1) fun _ _ hf hs => ⟨⟨by omega, Vm.upto_succ hx (Decidable.of_not_not (by assumption))⟩, by omega, hf.sub (by (repeat' (first | exact trivial | refine And.intro rfl ?_)); done), hs.imp fun h hs => by first | exact hs | exact stars_only [1, 0] rfl h hs⟩
          | skip
        
      · repeat' (first | (refine XL_id ?_; first | refine XL_nil ?_ | (refine XG_load ?_; refine XL_load tt_ok 1 rfl rfl rfl rfl rfl rfl ?_) | (refine XL_op tt_ok rfl rfl ?_; try (refine XL_dec_f (by omega) ?_))) | (refine X_id ?_; first | refine X_seq ?_ | (refine X_regionN (by repeat' (first | exact .nil | apply NL.cons)) ?_) | refine X_ret ?_ | refine X_exit ?_ | refine X_cond_f rfl ?_) | (refine Y_id ?_; first | refine Y_then ?_ | refine Y_then_exit ?_ | refine Y_block_hit ?_))
        all_goals first
          | exact Y_fn1 rfl rfl (bool_t ⟨rfl, (eq_prefix hll).2 fun j hj => hx j (by omega)⟩)
          | skip
        
    · refine Ctr.intro Try.func12 rfl rfl (by decide +kernel) fun F hpre => ?_
      have r1 : rdS encRg F.heap A m xs := hpre.1
      have r2 : rdS encRg F.heap B m' ys := hpre.2
      have hl1 := r1.1
      have hl2 := r2.1
      repeat' (first | (refine XL_id ?_; first | refine XL_nil ?_ | refine XL_guard_yes rfl rfl rfl ?_ | (refine XG_load ?_; first | refine XL_load tt_ok 0 rfl rfl rfl rfl rfl rfl ?_ | refine XL_load tt_ok 1 rfl rfl rfl rfl rfl rfl ?_) | (refine XG_box ?_; (refine XL_box rfl (fun _ => rfl) (fun _ => ?_); refine XL_nB (by repeat' (first | exact .nil | apply NL.cons)) ?_)) | (refine XL_op tt_ok rfl rfl ?_; try (first | refine XL_dec_t (by omega) ?_ | refine XL_dec_f (by omega) ?_))) | (refine X_id ?_; first | refine X_seq ?_ | (refine X_regionN (by repeat' (first | exact .nil | apply NL.cons)) ?_) | refine X_ret ?_ | refine X_cond_t rfl ?_) | (refine Y_id ?_; first | refine Y_then ?_ | refine Y_then_ret ?_))
      all_goals first
        | exact Y_fn1 rfl rfl (bool_f fun h => by have h := h.2; rw [h] at hl1; omega)
        | (exfalso; omega)
        | skip
      
  · refine Ctr.intro Try.func12 rfl rfl (by decide +kernel) fun F hpre => ?_
    repeat' (first | (refine XL_id ?_; first | refine XL_nil ?_ | refine XL_guard_no rfl rfl rfl rfl rfl ?_ | (refine XG_load ?_; first | refine XL_load tt_ok 0 rfl rfl rfl rfl rfl rfl ?_ | refine XL_load tt_ok 1 rfl rfl rfl rfl rfl rfl ?_) | (refine XG_box ?_; (refine XL_box rfl (fun _ => rfl) (fun _ => ?_); refine XL_nB (by repeat' (first | exact .nil | apply NL.cons)) ?_)) | (refine XL_op tt_ok rfl rfl ?_; try (refine XL_dec_t (by omega) ?_))) | (refine X_id ?_; first | refine X_seq ?_ | (refine X_regionN (by repeat' (first | exact .nil | apply NL.cons)) ?_) | refine X_ret ?_ | refine X_cond_t rfl ?_) | (refine Y_id ?_; first | refine Y_then ?_ | refine Y_then_ret ?_))
    all_goals first
      | exact Y_fn1 rfl rfl (bool_f fun h => hh h.1)
      | (exfalso; omega)
      | skip
    
def marks : List Rg := [⟨-7, 0, 0⟩, ⟨-7, 1, 0⟩, ⟨-7, 2, 0⟩, ⟨-7, 3, 0⟩, ⟨-7, 4, 0⟩]
theorem marks_at {i : Nat} (h : i < 5) : Cof.get marks i = ⟨-7, i, 0⟩ := by
  match i, h with
  | 0, _ => rfl
  | 1, _ => rfl
  | 2, _ => rfl
  | 3, _ => rfl
  | 4, _ => rfl
set_option maxHeartbeats 8000000 in
theorem spare_spec (A : Option Addr) (m c : Nat) (xs : List Rg) (h : Int) (hm : m ≤ 5864062014634) : Ctr Try.prog 16 [.agg #[.slice A m c, iV h]] (fun g => rdS encRg g A m xs) [] (fun v L => ∃ A' c', v = .agg #[.slice A' m c', iV h] ∧ m + 5 ≤ c' ∧ L = [own encRg A' (m + 5) c' (xs ++ marks)]) := by
  refine Ctr.intro Try.func16 rfl rfl (by decide +kernel) fun F hpre => ?_
  have r1 : rdS encRg F.heap A m xs := hpre
  have hl1 := r1.1
  refine X_mem (fun _ hs => stars_new (own_nil encRg _) hs) ?_
  repeat' (first | (refine XL_id ?_; first | refine XL_nil ?_ | (refine XG_load ?_; refine XL_load tt_ok 1 rfl rfl rfl rfl rfl rfl ?_) | (refine XG_box ?_; (refine XL_box rfl (fun _ => rfl) (fun _ => ?_); refine XL_nB (by repeat' (first | exact .nil | apply NL.cons)) ?_)) | (refine XG_call ?_; (refine XL_appF tt_ok 2 rfl rfl r1 rfl rfl rfl rfl rfl rfl rfl (by show (_ : Nat) * 24 ≤ _; omega) (by omega) (fun _ _ => rfl) (fun A1 c1 => ?_))) | (refine XG_alloc ?_; (refine XL_alloc tt_ok rfl rfl (fun _ => rfl) (fun b => ?_); refine XL_nB (by repeat' (first | exact .nil | apply NL.cons)) ?_)) | (refine XL_op tt_ok rfl rfl ?_)) | (refine X_id ?_; first | refine X_seq ?_ | (refine X_regionN (by repeat' (first | exact .nil | apply NL.cons)) ?_) | refine X_block ?_) | (refine Y_id ?_; refine Y_then ?_))
  refine X_loopD3 [1, 2] (fun (i : Nat) (A1 : Option Addr) (c1 : Nat) => [(4, .int .i64 i), (3, .slice A1 (m + i) c1)]) (fun i A1 c1 => [own encRg A1 (m + i) c1 (xs ++ marks.take i), blk b [.slice none 0 0, iV 0] 24, _]) (fun i A1 c1 => i ≤ 5) (fun i _ _ => 5 - i) 0 A1 c1 rfl (Nat.zero_le _) (by refine And.intro rfl (And.intro ?_ ?_); (show some (Value.slice A1 (0 + m) c1) = some (Value.slice A1 (m + 0) c1); rw [Nat.zero_add, Nat.add_zero]); (repeat' (exact trivial))) (fun h hs => by have hs := stars_take [2, 0, 0] rfl hs; refine stars_conv (k := 0) rfl (fun h o => ?_) hs; rw [Nat.zero_add, List.nil_append] at o; rw [List.take_zero, List.append_nil]; exact o) ?_
  intro i A1 c1 hi
  have hi : i ≤ 5 := hi
  by_cases hlt : i < 5
  · have e : marks.take (i + 1) = marks.take i ++ [⟨-7, i, 0⟩] := by rw [Vm.take_snoc marks i (by exact hlt), marks_at hlt]
    repeat' (first | (refine XL_id ?_; first | refine XL_nil ?_ | (refine XG_build ?_; (refine XL_build tt_ok rfl rfl rfl rfl rfl rfl rfl ?_; refine XL_aggN (by repeat' (first | exact .nil | apply NL.cons)) ?_)) | (refine XG_call ?_; (refine XL_app1 tt_ok 1 0 (⟨-7, i, 0⟩ : Rg) rfl rfl rfl rfl rfl rfl rfl rfl rfl rfl rfl (by show (_ : Nat) * 24 ≤ _; omega) (by omega) (fun _ _ => rfl) (fun A2 c2 => ?_))) | (refine XG_lit ?_; (refine XL_lit tt_ok rfl rfl rfl rfl rfl rfl rfl rfl rfl (fun _ => rfl) (fun b => ?_); refine XL_nB (by repeat' (first | exact .nil | apply NL.cons)) ?_)) | (refine XL_op tt_ok rfl rfl ?_; try (first | refine XL_int (wrap_i64 (by omega) (by omega)) ?_ | refine XL_dec_t (by omega) ?_))) | (refine X_id ?_; first | refine X_seq ?_ | (refine X_regionN (by repeat' (first | exact .nil | apply NL.cons)) ?_) | refine X_skip ?_ | refine X_block ?_ | refine X_cond_t rfl ?_) | (refine Y_id ?_; first | refine Y_then ?_ | refine Y_block_normal ?_))
    all_goals first
      | exact Y_again (i + 1, A2, c2) fun _ _ hf hs => ⟨by show i + 1 ≤ 5; omega, by show 5 - (i + 1) < 5 - i; omega, hf.sub (by (repeat' (first | exact trivial | refine And.intro rfl ?_)); done), hs.imp fun h hs => by have hs := stars_only [1, 1, 1] rfl h hs; rw [List.append_assoc, ← e] at hs; exact hs⟩
      | skip
    
  · obtain rfl : i = 5 := by omega
    refine X_fact 0 rfl (fun _ o => own_len o) fun hlen => ?_
    repeat' (first | (refine XL_id ?_; first | refine XL_nil ?_ | (refine XG_store ?_; (refine XL_storeW tt_ok 1 rfl rfl rfl rfl rfl rfl rfl ?_; refine XL_nK 1 rfl (by repeat' (first | exact .nil | apply NL.cons)) ?_)) | (refine XL_op tt_ok rfl rfl ?_; try (refine XL_dec_f (by omega) ?_))) | (refine XD_id ?_; first | refine XD_nil ?_ | (refine XD_id ?_; (first | (refine XD_uL rfl ?_; refine XD_s rfl rfl rfl (XV_load tt_ok rfl (blk_at 1 rfl hM) rfl rfl rfl) rfl ?_) | (refine XD_u rfl rfl ?_; first | refine XD_s rfl rfl rfl (XV_op tt_ok rfl) rfl ?_ | refine XD_s rfl rfl rfl (XV_build tt_ok rfl rfl rfl rfl rfl rfl) rfl ?_ | refine XD_s rfl rfl rfl (XV_slice tt_ok rfl rfl rfl rfl (.hi (by omega) (by omega)) rfl rfl rfl) rfl ?_))) | (refine XD_thaw thaw ?_; refine XD_l rfl rfl ?_)) | (refine X_id ?_; first | (refine X_drawS (id := 7) [0, 1, 2, 3, 4, 5, 6, 7, 8] (fun | 8 => .l | _ => .s) 8 (by repeat' (first | exact Split.nil | apply Split.blk | apply Split.keep)) mixed (by decide +kernel) ?_; intro G hFG hM thaw; show XD _ _ _ _ _ _ [0, 1, 2, 3, 4, 5, 6, 7, 8] _ _ _) | refine X_seq ?_ | (refine X_regionN (by repeat' (first | exact .nil | apply NL.cons)) ?_) | refine X_ret ?_ | refine X_exit ?_ | refine X_cond_f rfl ?_) | (refine Y_id ?_; first | refine Y_then ?_ | refine Y_then_exit ?_ | refine Y_block_hit ?_ | refine Y_l ?_))
    all_goals first
      | exact Y_res1 rfl (.cell tt_ok 1 rfl rfl rfl rfl rfl) (stars_only [0] rfl) ⟨A1, c1, by show Value.agg #[.slice (sbA A1 3 0 c1) ((m : Int).toNat - 0) (c1 - 0), iV h] = _; rw [sbA_zero, Nat.sub_zero, Nat.sub_zero, Int.toNat_natCast], hlen.2.1, rfl⟩
      | skip
    
end Go.Proofs.Ytalkcemelegohaa
