/- Helpers of the laws of Disk: kind, page, works, read, write, done. -/
import Derived.Test.YtmegelkbipgjbaaRa
set_option linter.unusedVariables false
namespace Go.Proofs.Ytmegelkbipgjbaa
open Go.RowKit Go.Cof

theorem kind_spec (k n : Int) (h1 : -9223372036854775808 ≤ k) (h2 : k ≤ 9223372036854775807) (h3 : 0 < n) (h4 : n ≤ 4294967296) : FnC Try.prog 8 [iV k, iV n] (fun _ => True) (iV (k % n)) := by
  have h6 := Int.lt_tmod_of_pos k h3
  have h7 := Int.tmod_lt_of_pos k h3
  have e1 : k.tmod n % n = k % n := by rw [Int.tmod_def, Int.sub_emod, Int.mul_emod_right, Int.sub_zero, Int.emod_emod]
  obtain ⟨y, hyy⟩ : ∃ y, k.tmod n = y := ⟨_, rfl⟩
  rw [hyy] at h6 h7 e1
  have e2 : (y + n).tmod n = k % n := by
    rw [Int.tmod_eq_emod_of_nonneg (by omega), ← e1, Int.add_emod_right]
  refine Ctr.intro Try.func8 rfl rfl (by decide +kernel) fun F hpre => ?_
  repeat' (first | (refine XL_id ?_; first | refine XL_nil ?_ | (refine XL_op tt_ok (opV_rem rfl rfl (by omega)) rfl ?_; refine XL_int hyy ?_) | (refine XL_op tt_ok (opV_rem rfl rfl (by omega)) rfl ?_; refine XL_int e2 ?_) | (refine XL_op tt_ok rfl rfl ?_; try (refine XL_int (wrap_i64 (by omega) (by omega)) ?_))) | (refine X_id ?_; first | refine X_seq ?_ | (refine X_regionN (by repeat' (exact .nil)) ?_) | refine X_ret ?_) | (refine Y_id ?_; refine Y_then ?_))
  all_goals first
    | exact Y_fn1 rfl rfl rfl
    | (exfalso; omega)
    | skip
  
/-! a page out of any bytes -/
def pageF (xs : List Int) : List Int := xs.take 256 ++ List.replicate (256 - xs.length) 0
theorem pageF_len (xs : List Int) : (pageF xs).length = 256 := by
  unfold pageF
  rw [List.length_append, List.length_take, List.length_replicate]; omega
/-- how far it is filled -/
def pageT (xs : List Int) (i : Nat) : List Int := xs.take i ++ List.replicate (256 - i) 0
theorem pageT_len (xs : List Int) {i : Nat} (h : i ≤ xs.length) (h2 : i ≤ 256) : (pageT xs i).length = 256 := by
  unfold pageT
  rw [List.length_append, List.length_take, List.length_replicate]; omega
theorem pageT_set (xs : List Int) {i : Nat} (h : i < xs.length) (h2 : i < 256) : (pageT xs i).set i (Cof.get xs (i : Int)) = pageT xs (i + 1) := by
  unfold pageT
  have hl : (xs.take i).length = i := by rw [List.length_take]; omega
  rw [take_snoc' _ _ h, show 256 - i = (256 - (i + 1)) + 1 by omega, List.replicate_succ, List.set_append, if_neg (by rw [hl]; omega), hl, Nat.sub_self, List.set_cons_zero, List.append_assoc]
  rfl
theorem pageT_fin (xs : List Int) {i : Nat} (h : i ≤ xs.length) (h2 : i ≤ 256) (h3 : i = xs.length ∨ i = 256) : pageT xs i = pageF xs := by
  unfold pageT pageF
  rcases h3 with rfl | rfl
  · rw [List.take_of_length_le (Nat.le_refl _), List.take_of_length_le h2]
  · rw [show 256 - xs.length = 0 by omega]
set_option maxRecDepth 100000 in
set_option maxHeartbeats 4000000 in
theorem page_spec (A : Option Addr) (m c : Nat) (xs : List Int) (hm : m ≤ 9223372036854775807) : Ctr Try.prog 10 [.slice A m c] (fun h => rdS encU h A m xs) [] (fun v L => ∃ b, v = .slice (some ⟨b, 0, none⟩) 256 256 ∧ L = [own encU (some ⟨b, 0, none⟩) 256 256 (pageF xs)]) := by
  refine Ctr.intro Try.func10 rfl rfl (by decide +kernel) fun F hpre => ?_
  have r1 : rdS encU F.heap A m xs := hpre
  have hl := r1.1
  repeat' (first | (refine XL_id ?_; first | refine XL_nil ?_ | (refine XG_make ?_; (refine XL_make encU (0 : Int) tt_ok rfl rfl rfl rfl rfl rfl rfl rfl (by omega) (by omega) (by show (1 : Int) * _ ≤ _; omega) (by omega) (fun _ => rfl) (fun g => ?_))) | (refine XL_op tt_ok rfl rfl ?_)) | (refine X_id ?_; first | refine X_block (id := 0) (hold ?_) | refine X_seq ?_ | (refine X_regionN (by repeat' (first | exact .nil | apply NL.cons)) ?_)) | (refine Y_id ?_; refine Y_then ?_))
  intro _
  refine X_loopD [0, 3] (fun (i : Nat) => [(4, .int .i64 i)]) (fun i => [own encU (some ⟨g, 0, none⟩) 256 256 (pageT xs i)]) (fun i => i ≤ 256 ∧ i ≤ xs.length) (fun i => 256 - i) 0 rfl ⟨Nat.zero_le _, Nat.zero_le _⟩ (by (repeat' (first | exact trivial | refine And.intro rfl ?_)); done) (fun h hs => by exact hs) ?_
  intro i hi
  obtain ⟨hi, hi2⟩ := hi
  by_cases hlt : i < 256 ∧ i < xs.length
  · obtain ⟨g1, g2⟩ := hlt
    have hps := pageT_set xs g2 g1
    repeat' (first | (refine XL_id ?_; first | refine XL_nil ?_ | refine XL_guard_yes rfl rfl rfl ?_ | (refine XG_load ?_; refine XL_el tt_ok rfl (by assumption) rfl (by omega) (by omega) rfl rfl rfl rfl ?_) | (refine XG_idx ?_; first | refine XL_idx tt_ok rfl rfl rfl rfl rfl (by assumption) (by omega) (by omega) rfl ?_ | refine XL_idxo tt_ok 0 rfl rfl rfl rfl rfl rfl (by omega) (by omega) rfl ?_) | (refine XG_store ?_; refine XL_putO tt_ok 0 (Cof.get xs (i : Int)) rfl rfl rfl rfl rfl rfl rfl (by omega) rfl ?_) | (refine XL_op tt_ok rfl rfl ?_; try (first | refine XL_int (wrap_i64 (by omega) (by omega)) ?_ | refine XL_dec_t (by omega) ?_))) | (refine X_id ?_; first | refine X_seq ?_ | (refine X_regionN (by repeat' (first | exact .nil | apply NL.cons)) ?_) | refine X_skip ?_ | refine X_block ?_ | refine X_cond_t rfl ?_) | (refine Y_id ?_; first | refine Y_then ?_ | refine Y_block_normal ?_))
    all_goals first
      | exact Y_again (i + 1) fun _ _ hf hs => ⟨⟨g1, g2⟩, by show 256 - (i + 1) < 256 - i; omega, hf.sub (by (repeat' (first | exact trivial | refine And.intro rfl ?_)); done), hs.imp fun g hg => by (show stars [own encU _ 256 256 (pageT xs (i + 1))] g; rw [← hps]; exact hg)⟩
      | (exfalso; omega)
      | skip
    
  · rw [pageT_fin xs hi2 hi (by omega)]
    repeat' (first | (refine XL_id ?_; first | refine XL_nil ?_ | refine XL_guard_yes rfl rfl rfl ?_ | refine XL_guard_no rfl rfl rfl rfl rfl ?_ | (refine XL_op tt_ok rfl rfl ?_; try (first | refine XL_dec_f (by omega) ?_ | refine XL_dec (fun _ => ?_) (fun _ => ?_)))) | (refine X_id ?_; first | refine X_seq ?_ | (refine X_regionN (by repeat' (first | exact .nil | apply NL.cons)) ?_) | refine X_ret ?_ | refine X_exit ?_ | refine X_cond_f rfl ?_) | (refine Y_id ?_; first | refine Y_then ?_ | refine Y_then_exit ?_ | refine Y_block_hit ?_))
    all_goals first
      | exact Y_ret1 rfl rfl (fun g hg => hg) ⟨_, rfl, rfl⟩
      | (exfalso; omega)
      | skip
    
set_option maxRecDepth 100000 in
set_option maxHeartbeats 8000000 in
theorem works_spec : FnC Try.prog 6 [] (fun _ => True) (.bool true) := by
  have e1 : rdE 2 1 [[], []] = 60 := rfl
  have w1 : wrE 2 1 (pageF [7]) = 0 := if_pos ⟨by decide, by decide, pageF_len _⟩
  have w2 : wrS 2 1 (pageF [7]) [[], []] = [[], pageF [7]] := if_pos ⟨by decide, by decide, pageF_len _⟩
  have hne : pageF [7] ≠ [] := fun e => by have := pageF_len [7]; rw [e] at this; cases this
  have e2 : rdE 2 1 [[], pageF [7]] = 0 := by unfold rdE; rw [if_pos (by decide), if_neg (show ¬ Cof.get [[], pageF [7]] 1 = [] from hne)]
  have e3 : erS 2 1 [[], pageF [7]] = [[], []] := if_pos e2
  have hw := fun (p b : Nat) => write_spec p 2 [[], []] 1 (some ⟨b, 0, none⟩) 256 256 (pageF [7]) (fun _ => ⟨b, rfl⟩)
  simp only [show ((2 : Nat) : Int) = 2 from rfl] at hw
  rw [w1, w2] at hw
  have hr1 := fun p => read_no p 2 [[], []] 1 (by show rdE 2 1 [[], []] ≠ 0; rw [e1]; decide)
  simp only [show ((2 : Nat) : Int) = 2 from rfl] at hr1
  rw [e1] at hr1
  have her := fun p => erase_spec p 2 [[], pageF [7]] 1
  simp only [show ((2 : Nat) : Int) = 2 from rfl] at her
  rw [e2, e3] at her
  have hr2 := fun p => read_ok p 2 [[], pageF [7]] 1 e2
  have hus := fun p => used_spec p 2 [[], []]
  simp only [show usedF [[], []] = [] from rfl, List.length_nil] at hus
  have hq := fun (A B : Option Addr) (m c m' c' : Nat) (h : m ≤ 9223372036854775807) (h' : m' ≤ 9223372036854775807) => eqB_spec A B m c m' c' (pageF [7]) (pageF [7]) h h'
  rw [decide_eq_true rfl] at hq
  refine Ctr.intro Try.func6 rfl rfl (by decide +kernel) fun F hpre => ?_
  repeat' (first | (refine XL_id ?_; first | refine XL_nil ?_ | refine XL_guard_yes rfl rfl rfl ?_ | (refine XG_call ?_; first | (refine XL_op tt_ok rfl rfl ?_) | (refine XL_callK [] (new_ok 2 (by decide)) rfl rfl (fun _ => rfl) (fun _ _ _ => trivial) (fun u L hv => ?_); obtain ⟨pd, rfl, rfl⟩ := hv) | refine XL_callE [0] (hr1 _) rfl rfl rfl (fun _ _ _ => trivial) ?_ | refine XL_callE [1] (her _) rfl rfl rfl (fun _ _ _ => trivial) ?_ | refine XL_callE [2] (hw _ _) rfl rfl rfl (fun g hg hL => rd_at 0 rfl hL) ?_ | (refine XL_callK [0] (hr2 _) rfl rfl (fun _ => rfl) (fun _ _ _ => trivial) (fun u L hv => ?_); obtain ⟨b2, rfl, rfl⟩ := hv) | (refine XL_callK [2] (hus _) rfl rfl (fun _ => rfl) (fun _ _ _ => trivial) (fun u L hv => ?_); obtain ⟨A2, c2, rfl, _, rfl⟩ := hv) | (refine XL_callK [] (page_spec _ 1 1 [7] (by decide)) rfl rfl (fun _ => rfl) (fun g hg hL => blk_rdS (blk_at 0 rfl hL) rfl rfl) (fun u L hv => ?_); obtain ⟨b1, rfl, rfl⟩ := hv) | (refine XL_fn (hq _ _ _ _ _ _ (by omega) (by omega)) rfl rfl (fun g hg hL => ⟨by exact rd_at 3 rfl hL, rd_at 0 rfl hL⟩) ?_)) | (refine XG_lit ?_; (refine XL_lit tt_ok rfl rfl rfl rfl rfl rfl rfl rfl rfl (fun _ => rfl) (fun b => ?_); refine XL_nB (by repeat' (first | exact .nil | apply NL.cons)) ?_)) | (refine XL_op tt_ok rfl rfl ?_; try (first | refine XL_dec_t (by omega) ?_ | refine XL_dec_f (by omega) ?_))) | (refine X_id ?_; first | (refine X_regionEN (id := 0) [] rfl (by repeat' (exact .nil)) ?_) | (refine X_regionEN (id := 1) [] rfl (by repeat' (exact .nil)) ?_) | (refine X_regionEN (id := 2) [1, 2] rfl (by repeat' (first | exact .nil | apply NL.cons)) ?_) | (refine X_regionEN (id := 4) [1] rfl (by repeat' (first | exact .nil | apply NL.cons)) ?_) | (refine X_regionEN (id := 5) [1, 4] rfl (by repeat' (first | exact .nil | apply NL.cons)) ?_) | (refine X_regionEN (id := 6) [1, 4, 5] rfl (by repeat' (first | exact .nil | apply NL.cons)) ?_) | (refine X_regionEN (id := 7) [1, 4, 5, 6, 7] rfl (by repeat' (first | exact .nil | apply NL.cons)) ?_) | (refine X_regionEN (id := 8) [1, 4, 5, 6, 7, 8] rfl (by repeat' (first | exact .nil | apply NL.cons)) ?_) | refine X_seq ?_ | refine X_skip ?_ | refine X_ret ?_ | refine X_cond_f rfl ?_) | (refine Y_id ?_; refine Y_then ?_))
  all_goals first
    | exact Y_fn1 rfl rfl rfl
    | (exfalso; omega)
    | skip
  
end Go.Proofs.Ytmegelkbipgjbaa
