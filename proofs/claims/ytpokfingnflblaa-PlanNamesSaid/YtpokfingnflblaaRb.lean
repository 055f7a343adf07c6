/- The colours of a part: the reference. -/
import Derived.Test.YtpokfingnflblaaWe
set_option linter.unusedVariables false
namespace Go.Proofs.Ytpokfingnflblaa
open Go.RowKit Go.Cof

theorem has_spec (A : Option Addr) (m c : Nat) (xs : List Int) (v : Int) (hm : m ≤ 9223372036854775807) : FnC Try.prog 48 [.slice A m c, iV v] (fun h => rdS encN h A m xs) (.bool (decide (v ∈ xs))) := by
  refine Ctr.intro Try.func48 rfl rfl (by decide +kernel) fun F hpre => ?_
  have hpre : rdS encN F.heap A m xs := hpre
  have hl := hpre.1
  repeat' (first | (refine XL_id ?_; first | refine XL_nil ?_ | (refine XL_op tt_ok rfl rfl ?_)) | (refine X_id ?_; first | refine X_cutD (c := .block 0 _) [] (fun (_ : Unit) => []) (fun _ => []) (fun _ => v ∉ xs) rfl (X_block (hold ?_)) (fun _ hj => ?_) | refine X_seq ?_ | (refine X_regionN (by repeat' (exact .nil)) ?_) | refine X_ret ?_) | (refine Y_id ?_; refine Y_then ?_))
  · intro _
    refine X_loopD [0, 1] (fun (i : Nat) => [(5, .int .i64 i)]) (fun i => []) (fun i => i ≤ m ∧ v ∉ xs.take i) (fun i => m - i) 0 rfl ⟨Nat.zero_le _, by simp⟩ (by (repeat' (first | exact trivial | refine And.intro rfl ?_)); done) (fun h hs => hs) ?_
    intro i hi
    obtain ⟨hi, hnot⟩ := hi
    by_cases hlt : i < m
    · have hmem : Cof.get xs (i : Int) ∈ xs := get_mem' (by omega) (by omega)
      have htk : xs.take (i + 1) = xs.take i ++ [Cof.get xs (i : Int)] := by
        rw [List.take_succ_eq_append_getElem (by omega)]
        congr 2
        rw [get_nat, List.getD_eq_getElem?_getD, List.getElem?_eq_getElem (by omega)]
        rfl
      by_cases hin : Cof.get xs (i : Int) = v
      all_goals (
        repeat' (first | (refine XL_id ?_; first | refine XL_nil ?_ | (refine XG_load ?_; refine XL_el tt_ok rfl (by assumption) rfl (by omega) (by omega) rfl rfl rfl rfl ?_) | (refine XG_idx ?_; refine XL_idx tt_ok rfl rfl rfl rfl rfl (by assumption) (by omega) (by omega) rfl ?_) | (refine XL_op tt_ok rfl rfl ?_; try (first | refine XL_int (wrap_i64 (by omega) (by omega)) ?_ | refine XL_dec_t (by omega) ?_ | refine XL_dec_f (by omega) ?_))) | (refine X_id ?_; first | refine X_seq ?_ | (refine X_regionN (by repeat' (exact .nil)) ?_) | refine X_skip ?_ | refine X_ret ?_ | refine X_block ?_ | refine X_cond_t rfl ?_ | refine X_cond_f rfl ?_) | (refine Y_id ?_; first | refine Y_then ?_ | refine Y_then_ret ?_ | refine Y_block_normal ?_ | refine Y_block_ret ?_)))
      all_goals first
        | exact Y_fn1 rfl rfl (bool_t (by rw [← hin]; exact hmem))
        | exact Y_again (i + 1) fun _ _ hf hs => ⟨⟨hlt, by rw [htk]; intro hh; rcases List.mem_append.1 hh with hh | hh; exact hnot hh; exact hin (List.mem_singleton.1 hh).symm⟩, by show m - (i + 1) < m - i; omega, hf.sub (by (repeat' (first | exact trivial | refine And.intro rfl ?_)); done), hs⟩
        | skip
      
    · repeat' (first | (refine XL_id ?_; first | refine XL_nil ?_ | (refine XL_op tt_ok rfl rfl ?_; try (refine XL_dec_f (by omega) ?_))) | (refine X_id ?_; first | refine X_seq ?_ | (refine X_regionN (by repeat' (exact .nil)) ?_) | refine X_exit ?_ | refine X_cond_f rfl ?_) | (refine Y_id ?_; first | refine Y_then ?_ | refine Y_then_exit ?_ | refine Y_block_hit ?_))
      all_goals first
        | exact Y_again () fun _ _ hf hs => ⟨by rwa [List.take_of_length_le (by omega)] at hnot, hf.sub (by (repeat' (exact trivial)); done), hs⟩
        | (exfalso; omega)
        | skip
      
  all_goals first
    | exact Y_fn1 rfl rfl (bool_f hj)
    | skip
  
set_option maxHeartbeats 8000000 in
theorem rcolours_spec (d : Cd) (y : Ly) (hf : y.Fit) (p : Nat) (hp : p < y.pm) : FnC Try.prog 66 [cfV d y, iV p] (fun h => CfR h d y) (.bool (decide (¬ ColP d p))) := by
  refine Ctr.intro Try.func66 rfl rfl (by decide +kernel) fun F hpre => ?_
  have hpre : CfR F.heap d y := hpre
  have r1 := hpre.ps
  have hdat := get_dat hpre hp
  have r2 := hpre.xs _ (get_memN hpre hp)
  have hcap := hf.cap
  have hxf := hf.x _ (get_memN hpre hp)
  have hml := r2.1
  have hml2 : (Cof.get y.ps (p : Int)).m = (Cof.get d.ps (p : Int)).xs.length := by rw [hml, hdat]
  repeat' (first | (refine XL_id ?_; first | refine XL_nil ?_ | (refine XG_box ?_; (refine XL_box rfl (fun _ => rfl) (fun bx => ?_); refine XL_nB (by repeat' (first | exact .nil | apply NL.cons)) ?_)) | (refine XG_load ?_; first | refine XL_load tt_ok 0 rfl rfl rfl rfl rfl rfl ?_ | refine XL_el tt_ok rfl (by assumption) rfl (by omega) (by omega) rfl rfl rfl rfl ?_) | (refine XG_idx ?_; refine XL_idx tt_ok rfl rfl rfl rfl rfl (by assumption) (by omega) (by omega) rfl ?_) | (refine XL_op tt_ok rfl rfl ?_; try (refine XL_dec (fun _ => ?_) (fun _ => ?_)))) | (refine X_id ?_; first | refine X_cutD (c := .block 0 _) [] (fun (_ : Unit) => []) (fun _ => [blk bx (cfL d y) 28]) (fun _ => ∀ j, j < (Cof.get y.ps (p : Int)).m → Good d p j) rfl (X_block (hold ?_)) (fun _ hj => ?_) | refine X_seq ?_ | (refine X_regionN (by repeat' (first | exact .nil | apply NL.cons)) ?_) | refine X_skip ?_ | refine X_ret ?_ | refine X_cond_t rfl ?_ | refine X_cond_f rfl ?_) | (refine Y_id ?_; first | refine Y_then ?_ | refine Y_then_ret ?_))
  · exact Y_fn1 rfl rfl (bool_t (fun h => by have := h.1; omega))
  · intro _
    refine X_loopD [1, 2, 5] (fun (i : Nat) => [(6, .int .i64 i)]) (fun i => [blk bx (cfL d y) 28]) (fun i => i ≤ (Cof.get y.ps (p : Int)).m ∧ ∀ j, j < i → Good d p j) (fun i => (Cof.get y.ps (p : Int)).m - i) 0 rfl ⟨Nat.zero_le _, fun j hj => by omega⟩ (by (repeat' (first | exact trivial | refine And.intro rfl ?_)); done) (fun h hs => hs) ?_
    intro i hi
    obtain ⟨hi, hgd⟩ := hi
    by_cases hlt : i < (Cof.get y.ps (p : Int)).m
    · obtain ⟨v, hv⟩ : ∃ v, Cof.get (Cof.get y.ps (p : Int)).d.xs (i : Int) = v := ⟨_, rfl⟩
      have hv2 : Cof.get (Cof.get d.ps (p : Int)).xs (i : Int) = v := by rw [← hdat]; exact hv
      have hv3 : ∀ z, Cof.get (Cof.get d.ps (p : Int)).xs z = Cof.get (Cof.get y.ps (p : Int)).d.xs z := fun z => by rw [hdat]
      have hi1 : 0 < i → ((i - 1 : Nat) : Int) = (i : Int) - 1 := fun h => by omega
      repeat' (first | (refine XL_id ?_; first | refine XL_nil ?_ | (refine XL_op tt_ok rfl rfl ?_; try (first | refine XL_int (wrap_i64 (by omega) (by omega)) ?_ | refine XL_dec_t (by omega) ?_))) | (refine XD_id ?_; first | (refine XD_thaw thaw ?_; refine XD_nil ?_) | refine XD_no rfl rfl rfl rfl rfl rfl ?_ | refine XD_nou rfl rfl rfl rfl rfl ?_ | (refine XD_id ?_; (first | (refine XD_uL rfl ?_; refine XD_s rfl rfl rfl (XV_el tt_ok rfl (rdS.le (by assumption) hFG) rfl (by omega) (by omega) rfl rfl rfl) rfl ?_) | (refine XD_uI rfl ?_; refine XD_s rfl rfl rfl (XV_idx tt_ok rfl rfl rfl rfl rfl (rdS.le (by assumption) hFG) (by omega) (by omega)) rfl ?_) | (refine XD_gL rfl ?_; first | refine XD_sy rfl rfl rfl rfl rfl (XV_load tt_ok rfl (blk_at 0 rfl hM) rfl rfl rfl) rfl ?_ | refine XD_sy rfl rfl rfl rfl rfl (XV_el tt_ok rfl (rdS.le (by assumption) hFG) rfl (by omega) (by omega) rfl rfl rfl) rfl ?_) | (refine XD_gI rfl ?_; refine XD_sy rfl rfl rfl rfl rfl (XV_idx tt_ok rfl rfl rfl rfl rfl (rdS.le (by assumption) hFG) (by omega) (by omega)) rfl ?_) | (refine XD_u rfl rfl ?_; refine XD_s rfl rfl rfl (XV_op tt_ok rfl) rfl ?_) | (refine XD_g rfl rfl ?_; refine XD_sy rfl rfl rfl rfl rfl (XV_op tt_ok rfl) rfl ?_)); try (first | refine XD_int (wrap_i64 (by omega) (by omega)) ?_ | refine XD_dec (fun _ => ?_) (fun _ => ?_)))) | (refine X_id ?_; first | refine X_cutQ (c := .block 2 _) [1, 2, 5, 6] (fun (_ : Unit) => []) (fun _ => [blk bx (cfL d y) 28]) (fun _ => Good d p i) rfl (X_block (hold ?_)) (fun _ hg => ?_) | (refine X_drawS (id := 7) [0, 1, 2, 3, 4, 5, 6, 7, 8, 9, 10, 11, 12, 13, 14, 15, 16, 17, 18, 19, 20, 21, 22, 23, 24, 25, 26, 27, 28, 29] (fun _ => .s) 8 (by repeat' (first | exact Split.nil | apply Split.blk)) mixed (by decide +kernel) ?_; intro G hFG hM thaw; show XD _ _ _ _ _ _ [0, 1, 2, 3, 4, 5, 6, 7, 8, 9, 10, 11, 12, 13, 14, 15, 16, 17, 18, 19, 20, 21, 22, 23, 24, 25, 26, 27, 28, 29] _ _ _) | refine X_seq ?_ | (refine X_regionN (by repeat' (first | exact .nil | apply NL.cons)) ?_) | refine X_skip ?_ | refine X_ret ?_ | refine X_block ?_ | refine X_cond_t rfl ?_ | refine X_cond_f rfl ?_) | (refine Y_id ?_; first | refine Y_then ?_ | refine Y_then_ret ?_ | refine Y_block_normal ?_ | refine Y_block_ret ?_))
      all_goals first
        | (exfalso; omega)
        | exact Y_fn1 rfl rfl (bool_t (fun h => by have g := (h.2 i (by omega)).1; rw [hv3] at g; omega))
        | exact Y_fn1 rfl rfl (bool_t (fun h => by have g := (h.2 i (by omega)).2.1; rw [hv3] at g; omega))
        | exact Y_fn1 rfl rfl (bool_t (fun h => by have g := (h.2 i (by omega)).2.2.1 (by omega); rw [hi1 (by omega), hv3, hv3] at g; omega))
        | exact Y_again (i + 1) fun _ _ hf hs => ⟨⟨hlt, fun j hj => by by_cases hj2 : j < i; exact hgd j hj2; obtain rfl : j = i := (by omega); exact hg⟩, by show (Cof.get y.ps (p : Int)).m - (i + 1) < (Cof.get y.ps (p : Int)).m - i; omega, hf.sub (by (repeat' (first | exact trivial | refine And.intro rfl ?_)); done), hs⟩
        | skip
      all_goals (
        intro _
        refine X_loopD [1, 2, 5, 6] (fun (k : Nat) => [(7, .int .i64 k)]) (fun _ => [blk bx (cfL d y) 28]) (fun k => k ≤ p ∧ ∀ j, j < k → v ∉ (Cof.get d.ps (j : Int)).xs) (fun k => p - k) 0 rfl ⟨Nat.zero_le _, fun j hj => by omega⟩ (by (repeat' (first | exact trivial | refine And.intro rfl ?_)); done) (fun h hs => hs) ?_
        intro k hk
        obtain ⟨hk, hnot⟩ := hk
        by_cases hkp : k < p
        · have hkm : k < y.pm := by omega
          have rk := hpre.xs _ (get_memN hpre hkm)
          have hkd := get_dat hpre hkm
          have hkf := hf.x _ (get_memN hpre hkm)
          have hct := has_spec (Cof.get y.ps (k : Int)).A (Cof.get y.ps (k : Int)).m (Cof.get y.ps (k : Int)).c (Cof.get y.ps (k : Int)).d.xs (Cof.get (Cof.get y.ps (p : Int)).d.xs (i : Int)) (by omega)
          rw [hkd] at hct
          have rk2 : rdS encN F.heap (Cof.get y.ps (k : Int)).A (Cof.get y.ps (k : Int)).m (Cof.get d.ps (k : Int)).xs := by rw [← hkd]; exact rk
          clear rk
          by_cases hin : Cof.get (Cof.get y.ps (p : Int)).d.xs (i : Int) ∈ (Cof.get d.ps (k : Int)).xs
          · rw [decide_eq_true hin] at hct
            repeat' (first | (refine XL_id ?_; first | refine XL_nil ?_ | (refine XG_call ?_; refine XL_fn hct rfl rfl (fun g hg hL => (rk2.le hFG).le hg) ?_) | (refine XL_op tt_ok rfl rfl ?_; try (refine XL_dec_t (by omega) ?_))) | (refine XD_id ?_; first | (refine XD_thaw thaw ?_; refine XD_nil ?_) | (refine XD_id ?_; (first | (refine XD_uL rfl ?_; first | refine XD_s rfl rfl rfl (XV_load tt_ok rfl (blk_at 0 rfl hM) rfl rfl rfl) rfl ?_ | refine XD_s rfl rfl rfl (XV_el tt_ok rfl (rdS.le (by assumption) hFG) rfl (by omega) (by omega) rfl rfl rfl) rfl ?_) | (refine XD_uI rfl ?_; refine XD_s rfl rfl rfl (XV_idx tt_ok rfl rfl rfl rfl rfl (rdS.le (by assumption) hFG) (by omega) (by omega)) rfl ?_) | (refine XD_u rfl rfl ?_; refine XD_s rfl rfl rfl (XV_op tt_ok rfl) rfl ?_))) | refine XD_m rfl rfl ?_) | (refine X_id ?_; first | (refine X_drawS (id := 12) [0, 1, 2, 3, 4, 5, 6, 7, 8, 9, 10] (fun | 10 => .m | _ => .s) 8 (by repeat' (first | exact Split.nil | apply Split.blk)) mixed (by decide +kernel) ?_; intro G hFG hM thaw; show XD _ _ _ _ _ _ [0, 1, 2, 3, 4, 5, 6, 7, 8, 9, 10] _ _ _) | refine X_seq ?_ | (refine X_regionN (by repeat' (first | exact .nil | apply NL.cons)) ?_) | refine X_skip ?_ | refine X_ret ?_ | refine X_block ?_ | refine X_cond_t rfl ?_) | (refine Y_id ?_; first | refine Y_then ?_ | refine Y_then_ret ?_ | refine Y_block_ret ?_ | refine Y_m ?_))
            all_goals first
              | exact Y_fn1 rfl rfl (bool_t (fun h => (h.2 i (by omega)).2.2.2 k hkp (by rw [hv2, ← hv]; exact hin)))
              | skip
            
          · rw [decide_eq_false hin] at hct
            repeat' (first | (refine XL_id ?_; first | refine XL_nil ?_ | (refine XG_call ?_; refine XL_fn hct rfl rfl (fun g hg hL => (rk2.le hFG).le hg) ?_) | (refine XL_op tt_ok rfl rfl ?_; try (first | refine XL_int (wrap_i64 (by omega) (by omega)) ?_ | refine XL_dec_t (by omega) ?_))) | (refine XD_id ?_; first | (refine XD_thaw thaw ?_; refine XD_nil ?_) | (refine XD_id ?_; (first | (refine XD_uL rfl ?_; first | refine XD_s rfl rfl rfl (XV_load tt_ok rfl (blk_at 0 rfl hM) rfl rfl rfl) rfl ?_ | refine XD_s rfl rfl rfl (XV_el tt_ok rfl (rdS.le (by assumption) hFG) rfl (by omega) (by omega) rfl rfl rfl) rfl ?_) | (refine XD_uI rfl ?_; refine XD_s rfl rfl rfl (XV_idx tt_ok rfl rfl rfl rfl rfl (rdS.le (by assumption) hFG) (by omega) (by omega)) rfl ?_) | (refine XD_u rfl rfl ?_; refine XD_s rfl rfl rfl (XV_op tt_ok rfl) rfl ?_))) | refine XD_m rfl rfl ?_) | (refine X_id ?_; first | (refine X_drawS (id := 12) [0, 1, 2, 3, 4, 5, 6, 7, 8, 9, 10] (fun | 10 => .m | _ => .s) 8 (by repeat' (first | exact Split.nil | apply Split.blk)) mixed (by decide +kernel) ?_; intro G hFG hM thaw; show XD _ _ _ _ _ _ [0, 1, 2, 3, 4, 5, 6, 7, 8, 9, 10] _ _ _) | refine X_seq ?_ | (refine X_regionN (by repeat' (first | exact .nil | apply NL.cons)) ?_) | refine X_skip ?_ | refine X_block ?_ | refine X_cond_t rfl ?_ | refine X_cond_f rfl ?_) | (refine Y_id ?_; first | refine Y_then ?_ | refine Y_block_normal ?_ | refine Y_m ?_))
            all_goals first
              | exact Y_again (k + 1) fun _ _ hf hs => ⟨⟨hkp, fun j hj => by by_cases hj2 : j < k; exact hnot j hj2; obtain rfl : j = k := (by omega); rw [← hv]; exact hin⟩, by show p - (k + 1) < p - k; omega, hf.sub (by (repeat' (first | exact trivial | refine And.intro rfl ?_)); done), hs⟩
              | skip
            
        · repeat' (first | (refine XL_id ?_; first | refine XL_nil ?_ | (refine XL_op tt_ok rfl rfl ?_; try (refine XL_dec_f (by omega) ?_))) | (refine X_id ?_; first | refine X_seq ?_ | (refine X_regionN (by repeat' (first | exact .nil | apply NL.cons)) ?_) | refine X_exit ?_ | refine X_cond_f rfl ?_) | (refine Y_id ?_; first | refine Y_then ?_ | refine Y_then_exit ?_ | refine Y_block_hit ?_))
          all_goals first
            | exact Y_again () fun _ _ hf hs => ⟨Good.mk hv2 (by rw [← hv]; assumption) (by rw [← hv]; assumption) (fun h0 => by rw [hi1 h0, hv3, ← hv]; omega) (fun j hj => hnot j (by omega)), hf.sub (by (repeat' (first | exact trivial | refine And.intro rfl ?_)); done), hs⟩
            | (exfalso; omega)
            | skip
          )
      
    · repeat' (first | (refine XL_id ?_; first | refine XL_nil ?_ | (refine XL_op tt_ok rfl rfl ?_; try (refine XL_dec_f (by omega) ?_))) | (refine X_id ?_; first | refine X_seq ?_ | (refine X_regionN (by repeat' (first | exact .nil | apply NL.cons)) ?_) | refine X_exit ?_ | refine X_cond_f rfl ?_) | (refine Y_id ?_; first | refine Y_then ?_ | refine Y_then_exit ?_ | refine Y_block_hit ?_))
      all_goals first
        | exact Y_again () fun _ _ hf hs => ⟨fun j hj => hgd j (by omega), hf.sub (by (repeat' (exact trivial)); done), hs⟩
        | (exfalso; omega)
        | skip
      
  all_goals first
    | exact Y_fn1 rfl rfl (bool_f (fun h => h ⟨by omega, fun j hj2 => hj j (by omega)⟩))
    | skip
  
end Go.Proofs.Ytpokfingnflblaa
