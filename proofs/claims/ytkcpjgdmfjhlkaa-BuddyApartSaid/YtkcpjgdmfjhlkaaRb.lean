/- The document's answer: Whole, open, Lists, Same. -/
import Derived.Test.YtkcpjgdmfjhlkaaRa
set_option linter.unusedVariables false
namespace Go.Proofs.Ytkcpjgdmfjhlkaa
open Go.RowKit Go.Cof

theorem rwhole_spec (r ob tb : Nat) (op : List Bool) (hn : op.length ≤ 4096) : FnC Try.prog 19 [ptr r] (fun h => rbB r ob tb op.length h ∧ rdS encB h (some ⟨ob, 0, none⟩) op.length op) (.bool (decide ((cntB op : Int) = op.length))) := by
  refine Ctr.intro Try.func19 rfl rfl (by decide +kernel) fun F hpre => ?_
  have hbk : rbB r ob tb op.length F.heap := hpre.1
  have r1 : rdS encB F.heap (some ⟨ob, 0, none⟩) op.length op := hpre.2
  repeat' (first | (refine XL_id ?_; first | refine XL_nil ?_ | (refine XG_call ?_; (refine XL_fn (rfree_spec r ob tb op hn) rfl rfl (fun g hg hL => ⟨blk_le (by exact blk_le hbk hFG) hg, r1.le (by exact hFG.trans hg)⟩) ?_)) | (refine XL_op tt_ok rfl rfl ?_)) | (refine XD_id ?_; first | (refine XD_thaw thaw ?_; refine XD_nil ?_) | (refine XD_id ?_; (first | (refine XD_uL rfl ?_; refine XD_s rfl rfl rfl (XV_load tt_ok rfl (blk_le (by assumption) hFG) rfl rfl rfl) rfl ?_) | (refine XD_u rfl rfl ?_; refine XD_s rfl rfl rfl (XV_op tt_ok rfl) rfl ?_)); try (refine XD_dec (fun _ => ?_) (fun _ => ?_))) | refine XD_m rfl rfl ?_) | (refine X_id ?_; first | (refine X_drawS (id := 1) [0, 2, 3, 4, 5, 6, 1, 7, 8] (fun | 1 => .m | _ => .s) 8 (by repeat' (exact Split.nil)) mixed (by decide +kernel) ?_; intro G hFG hM thaw; show XD _ _ _ _ _ _ [0, 2, 3, 4, 5, 6, 1, 7, 8] _ _ _) | refine X_seq ?_ | (refine X_regionN (by repeat' (exact .nil)) ?_) | refine X_ret ?_) | (refine Y_id ?_; first | refine Y_then ?_ | refine Y_m ?_))
  all_goals first
    | (refine Y_fn1 rfl rfl ?_; first | exact bool_t (by assumption) | exact bool_f (by assumption))
    | skip
  
def allR (op : List Bool) (a n : Nat) : Bool := (List.range n).all fun i => op.getD (a + i) false
theorem allR_iff {op : List Bool} {a n : Nat} : allR op a n = true ↔ ∀ i, a ≤ i → i < a + n → O op i := by
  unfold allR
  rw [List.all_eq_true]
  constructor
  · intro h i h1 h2
    have := h (i - a) (List.mem_range.2 (by omega))
    rw [show a + (i - a) = i by omega] at this
    exact this
  · intro h i hi
    exact h (a + i) (by omega) (by have := List.mem_range.1 hi; omega)
set_option maxHeartbeats 4000000 in
theorem ropen_spec (r ob tb : Nat) (op : List Bool) (hn : op.length ≤ 4096) (a o : Nat) (ha : a ≤ 4096) (ho : o ≤ 6) : FnC Try.prog 35 [ptr r, iV a, iV o] (fun h => rbB r ob tb op.length h ∧ rdS encB h (some ⟨ob, 0, none⟩) op.length op) (.bool (allR op a (2 ^ o))) := by
  obtain ⟨P, hP⟩ : ∃ P, 2 ^ o = P := ⟨_, rfl⟩
  have hp := two_pos o
  have hP6 : P ≤ 64 := by rw [← hP]; exact Nat.pow_le_pow_right (n := 2) (by decide) ho
  rw [hP]
  refine Ctr.intro Try.func35 rfl rfl (by decide +kernel) fun F hpre => ?_
  have hbk : rbB r ob tb op.length F.heap := hpre.1
  have r1 : rdS encB F.heap (some ⟨ob, 0, none⟩) op.length op := hpre.2
  have hno : op.length < a + P → allR op a P = false := fun h => by
    cases e : allR op a P with
    | false => rfl
    | true =>
      have := (allR_iff.1 e (a + P - 1) (by omega) (by omega)).lt
      omega
  repeat' (first | (refine XL_id ?_; first | refine XL_nil ?_ | refine XL_guard_yes rfl rfl rfl ?_ | (refine XG_load ?_; refine XL_loadF tt_ok rfl (by assumption) rfl rfl rfl rfl ?_) | (refine XL_op tt_ok (opV_shl rfl rfl (by omega)) rfl ?_; refine XL_int (shl_o ho hP) ?_) | (refine XL_op tt_ok rfl rfl ?_; try (first | refine XL_int (wrap_i64 (by omega) (by omega)) ?_ | refine XL_dec_f (by omega) ?_ | refine XL_dec (fun _ => ?_) (fun _ => ?_)))) | (refine X_id ?_; first | refine X_block (id := 0) (hold ?_) | refine X_seq ?_ | (refine X_regionN (by repeat' (exact .nil)) ?_) | refine X_skip ?_ | refine X_ret ?_ | refine X_cond_t rfl ?_ | refine X_cond_f rfl ?_) | (refine Y_id ?_; first | refine Y_then ?_ | refine Y_then_ret ?_))
  all_goals first
    | (rw [hno (by omega)]; exact Y_fn1 rfl rfl rfl)
    | (exfalso; omega)
    | skip
  intro _
  refine X_loopD [0, 1, 7] (fun (i : Nat) => [(8, .int .i64 i)]) (fun _ => []) (fun i => a ≤ i ∧ i ≤ a + P ∧ ∀ j, a ≤ j → j < i → O op j) (fun i => a + P - i) a rfl ⟨Nat.le_refl _, by omega, fun j h1 h2 => by omega⟩ (by (repeat' (first | exact trivial | refine And.intro rfl ?_)); done) (fun _ _ => trivial) ?_
  intro i hi
  obtain ⟨hi0, hi, hx⟩ := hi
  by_cases hlt : i < a + P
  · have hlen : a + P ≤ op.length := by omega
    cases hb : Cof.get op (i : Int) with
    | true =>
      repeat' (first | (refine XL_id ?_; first | refine XL_head (show Value.bool (Cof.get op (i : Int)) = .bool true from congrArg _ hb) ?_ | refine XL_nil ?_ | (refine XG_load ?_; first | refine XL_loadF tt_ok rfl (by assumption) rfl rfl rfl rfl ?_ | refine XL_el tt_ok rfl (by assumption) rfl (by omega) (by omega) rfl rfl rfl rfl ?_) | (refine XG_idx ?_; refine XL_idx tt_ok rfl rfl rfl rfl rfl (by assumption) (by omega) (by omega) rfl ?_) | (refine XL_op tt_ok rfl rfl ?_; try (first | refine XL_int (wrap_i64 (by omega) (by omega)) ?_ | refine XL_dec_t (by omega) ?_))) | (refine X_id ?_; first | refine X_seq ?_ | (refine X_regionN (by repeat' (exact .nil)) ?_) | refine X_skip ?_ | refine X_block ?_ | refine X_cond_t rfl ?_ | refine X_cond_f rfl ?_) | (refine Y_id ?_; first | refine Y_then ?_ | refine Y_block_normal ?_))
      all_goals first
        | exact Y_again (i + 1) fun _ _ hf hs => ⟨⟨by omega, by omega, fun j h1 h2 => by (by_cases e : j = i; (subst e; exact hb); exact hx j h1 (by omega))⟩, by show a + P - (i + 1) < a + P - i; omega, hf.sub (by (repeat' (first | exact trivial | refine And.intro rfl ?_)); done), hs⟩
        | (exfalso; omega)
        | skip
      
    | false =>
      have hal : allR op a P = false := by
        cases e : allR op a P with
        | false => rfl
        | true =>
          have h1 : Cof.get op (i : Int) = true := allR_iff.1 e i hi0 hlt
          rw [hb] at h1; cases h1
      rw [hal]
      repeat' (first | (refine XL_id ?_; first | refine XL_head (show Value.bool (Cof.get op (i : Int)) = .bool false from congrArg _ hb) ?_ | refine XL_nil ?_ | (refine XG_load ?_; first | refine XL_loadF tt_ok rfl (by assumption) rfl rfl rfl rfl ?_ | refine XL_el tt_ok rfl (by assumption) rfl (by omega) (by omega) rfl rfl rfl rfl ?_) | (refine XG_idx ?_; refine XL_idx tt_ok rfl rfl rfl rfl rfl (by assumption) (by omega) (by omega) rfl ?_) | (refine XL_op tt_ok rfl rfl ?_; try (first | refine XL_int (wrap_i64 (by omega) (by omega)) ?_ | refine XL_dec_t (by omega) ?_))) | (refine X_id ?_; first | refine X_seq ?_ | (refine X_regionN (by repeat' (exact .nil)) ?_) | refine X_skip ?_ | refine X_ret ?_ | refine X_block ?_ | refine X_cond_t rfl ?_) | (refine Y_id ?_; first | refine Y_then ?_ | refine Y_then_ret ?_ | refine Y_block_ret ?_))
      all_goals first
        | exact Y_fn1 rfl rfl rfl
        | (exfalso; omega)
        | skip
      
  · obtain rfl : i = a + P := by omega
    rw [allR_iff.2 hx]
    repeat' (first | (refine XL_id ?_; first | refine XL_nil ?_ | (refine XL_op tt_ok rfl rfl ?_; try (first | refine XL_int (wrap_i64 (by omega) (by omega)) ?_ | refine XL_dec_f (by omega) ?_))) | (refine X_id ?_; first | refine X_seq ?_ | (refine X_regionN (by repeat' (exact .nil)) ?_) | refine X_ret ?_ | refine X_exit ?_ | refine X_cond_f rfl ?_) | (refine Y_id ?_; first | refine Y_then ?_ | refine Y_then_exit ?_ | refine Y_block_hit ?_))
    all_goals first
      | exact Y_fn1 rfl rfl rfl
      | (exfalso; omega)
      | skip
    
/-- Of two lists of lists the same? -/
theorem rsame_spec (q z : In (In Int)) : FnC Try.prog 32 [slV q, slV z] (fun h => isLl q h ∧ isLl z h) (.bool (decide (q.xs.map In.xs = z.xs.map In.xs))) := by
  refine Ctr.intro Try.func32 rfl rfl (by decide +kernel) fun F hpre => ?_
  obtain ⟨h1, h2⟩ : isLl q F.heap ∧ isLl z F.heap := hpre
  obtain ⟨⟨hq7, hqf⟩, h1⟩ := h1
  obtain ⟨⟨hz7, hzf⟩, h2⟩ := h2
  have r1 : rdS (encIn Int) F.heap q.A q.m q.xs := rd_at 0 rfl h1
  have r2 : rdS (encIn Int) F.heap z.A z.m z.xs := rd_at 0 rfl h2
  have hl1 := r1.1
  have hl2 := r2.1
  obtain ⟨_, hg1, ha1⟩ := at_mem 1 rfl h1
  obtain ⟨_, hg2, ha2⟩ := at_mem 1 rfl h2
  repeat' (first | (refine XL_id ?_; first | refine XL_nil ?_ | (refine XL_op tt_ok rfl rfl ?_; try (refine XL_dec_f (by omega) ?_))) | (refine X_id ?_; first | refine X_block (id := 0) (hold ?_) | refine X_seq ?_ | (refine X_regionN (by repeat' (exact .nil)) ?_) | refine X_skip ?_ | refine X_cond_f rfl ?_) | (refine Y_id ?_; refine Y_then ?_))
  all_goals first
    | (exfalso; omega)
    | skip
  intro _
  refine X_loopD [0, 1] (fun (i : Nat) => [(5, .int .i64 i)]) (fun _ => []) (fun i => i ≤ 7 ∧ ∀ j : Nat, j < i → (Cof.get q.xs (j : Int)).xs = (Cof.get z.xs (j : Int)).xs) (fun i => 7 - i) 0 rfl ⟨Nat.zero_le _, fun j h => by omega⟩ (by (repeat' (first | exact trivial | refine And.intro rfl ?_)); done) (fun _ _ => trivial) ?_
  intro i hi
  obtain ⟨hi, hx⟩ := hi
  by_cases hlt : i < 7
  · have hm1 := hqf _ (get_mem' (l := q.xs) (i := (i : Int)) (by omega) (by omega))
    have hm2 := hzf _ (get_mem' (l := z.xs) (i := (i : Int)) (by omega) (by omega))
    have s1 := (allI_rd ha1 (i := i) (by omega)).le hg1
    have s2 := (allI_rd ha2 (i := i) (by omega)).le hg2
    have heq := eqInts_spec (Cof.get q.xs (i : Int)).A (Cof.get z.xs (i : Int)).A (Cof.get q.xs (i : Int)).m (Cof.get q.xs (i : Int)).c (Cof.get z.xs (i : Int)).m (Cof.get z.xs (i : Int)).c (Cof.get q.xs (i : Int)).xs (Cof.get z.xs (i : Int)).xs (by omega) (by omega)
    repeat' (first | (refine XL_id ?_; first | refine XL_nil ?_ | (refine XG_call ?_; first | (refine XL_op tt_ok rfl rfl ?_) | (refine XL_fn heq rfl rfl (fun g hg hL => ⟨s1.le (hFG.trans hg), s2.le (hFG.trans hg)⟩) ?_; refine XL_dec (fun _ => ?_) (fun _ => ?_))) | (refine XL_op tt_ok rfl rfl ?_; try (first | refine XL_int (wrap_i64 (by omega) (by omega)) ?_ | refine XL_dec_t (by omega) ?_))) | (refine XD_id ?_; first | (refine XD_thaw thaw ?_; refine XD_nil ?_) | (refine XD_id ?_; (first | (refine XD_uL rfl ?_; refine XD_s rfl rfl rfl (XV_el tt_ok rfl (rdS.le (by assumption) hFG) rfl (by omega) (by omega) rfl rfl rfl) rfl ?_) | (refine XD_uI rfl ?_; refine XD_s rfl rfl rfl (XV_idx tt_ok rfl rfl rfl rfl rfl (rdS.le (by assumption) hFG) (by omega) (by omega)) rfl ?_) | (refine XD_u rfl rfl ?_; refine XD_s rfl rfl rfl (XV_op tt_ok rfl) rfl ?_))) | refine XD_m rfl rfl ?_) | (refine X_id ?_; first | (refine X_drawS (id := 6) [0, 1, 2, 3, 4, 5, 6, 7, 8, 9] (fun | 8 => .m | _ => .s) 8 (by repeat' (exact Split.nil)) mixed (by decide +kernel) ?_; intro G hFG hM thaw; show XD _ _ _ _ _ _ [0, 1, 2, 3, 4, 5, 6, 7, 8, 9] _ _ _) | refine X_seq ?_ | (refine X_regionN (by repeat' (exact .nil)) ?_) | refine X_skip ?_ | refine X_ret ?_ | refine X_block ?_ | refine X_cond_t rfl ?_ | refine X_cond_f rfl ?_) | (refine Y_id ?_; first | refine Y_then ?_ | refine Y_then_ret ?_ | refine Y_block_normal ?_ | refine Y_block_ret ?_ | refine Y_m ?_))
    all_goals first
      | exact Y_again (i + 1) fun _ _ hf hs => ⟨⟨by omega, fun j hj => by (by_cases e : j = i; (subst e; assumption); exact hx j (by omega))⟩, by show 7 - (i + 1) < 7 - i; omega, hf.sub (by (repeat' (first | exact trivial | refine And.intro rfl ?_)); done), hs⟩
      | exact Y_fn1 rfl rfl (bool_f fun h => by rename_i hne; apply hne; have := congrArg (fun l => Cof.get l (i : Int)) h; simp only [get_map In.xs (show i < q.xs.length by omega), get_map In.xs (show i < z.xs.length by omega)] at this; exact this)
      | skip
    
  · repeat' (first | (refine XL_id ?_; first | refine XL_nil ?_ | (refine XL_op tt_ok rfl rfl ?_; try (refine XL_dec_f (by omega) ?_))) | (refine X_id ?_; first | refine X_seq ?_ | (refine X_regionN (by repeat' (exact .nil)) ?_) | refine X_ret ?_ | refine X_exit ?_ | refine X_cond_f rfl ?_) | (refine Y_id ?_; first | refine Y_then ?_ | refine Y_then_exit ?_ | refine Y_block_hit ?_))
    all_goals first
      | exact Y_fn1 rfl rfl (bool_t (get_ext (by rw [List.length_map, List.length_map]; omega) fun j hj => by rw [List.length_map] at hj; rw [get_map In.xs hj, get_map In.xs (by omega)]; exact hx j (by omega)))
      | (exfalso; omega)
      | skip
    
end Go.Proofs.Ytkcpjgdmfjhlkaa
