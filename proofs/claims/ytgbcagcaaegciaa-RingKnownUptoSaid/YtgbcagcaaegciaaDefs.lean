/- Walks of the program's ring: New, there, Add, Remove, List. -/
import Derived.Test.YtgbcagcaaegciaaPa
import Derived.Test.YtgbcagcaaegciaaGd
import Derived.Test.YtgbcagcaaegciaaGn
import Derived.Test.YtgbcagcaaegciaaGc
set_option linter.unusedVariables false
namespace Go.Proofs.Ytgbcagcaaegciaa
open Go.RowKit Go.Cof

abbrev ptr (p : Nat) : Value := .pointer (some ⟨p, 0, none⟩)
abbrev ringB (p : Nat) (A : Option Addr) (m c : Nat) (h : Int) : HProp := blk p [.bool true, .slice A m c, .int .i64 h] 53
def isRing (p : Nat) (ys : List Int) : HProp := fun g => ∃ x : (Option Addr × Nat) × List Int × Nat, (ROk x.2.1 x.2.2 ∧ ys = rotL x.2.1 x.2.2) ∧ stars [ringB p x.1.1 x.2.1.length x.1.2 x.2.2, own encN x.1.1 x.2.1.length x.1.2 x.2.1] g
theorem isRing_mk {p : Nat} {A : Option Addr} {m c : Nat} {xs ys : List Int} {h : Nat} {hv : Int} (hh : hv = h) (hok : ROk xs h) (hm : m = xs.length) (hy : rotL xs h = ys) : ∀ g, stars [ringB p A m c hv, own encN A m c xs] g → isRing p ys g := fun g hs => by
  subst hh hm hy
  exact ⟨((A, c), xs, h), ⟨hok, rfl⟩, hs⟩
theorem new_spec : Ctr Try.prog 8 [] (fun _ => True) [] (fun v L => ∃ p, v = ptr p ∧ L = [isRing p []]) := by
  refine Ctr.intro Try.func8 rfl rfl (by decide +kernel) fun F hpre => ?_
  repeat' (first | (refine XL_id ?_; first | refine XL_nil ?_ | (refine XG_box ?_; (refine XL_box rfl (fun _ => rfl) (fun _ => ?_); refine XL_nB (by repeat' (first | exact .nil | apply NL.cons)) ?_)) | (refine XG_build ?_; (refine XL_build tt_ok rfl rfl rfl rfl rfl rfl rfl ?_; refine XL_aggN (by repeat' (first | exact .nil | apply NL.cons)) ?_)) | (refine XL_op tt_ok rfl rfl ?_)) | (refine X_id ?_; first | refine X_seq ?_ | (refine X_regionN (by repeat' (exact .nil)) ?_) | refine X_ret ?_) | (refine Y_id ?_; refine Y_then ?_))
  all_goals first
    | exact Y_ret1 rfl rfl (stars_fin [0] rfl fun h hs => isRing_mk (h := 0) rfl YOk.nil.r rfl rfl h (by obtain ⟨g1, g2, d, a, b, hA, hB⟩ := hs; exact ⟨g1, g2, d, a, b, hA, stars_new (own_nil encN _) hB⟩)) ⟨_, rfl, rfl⟩
    | skip
  
theorem there_spec (p : Nat) (A : Option Addr) (m c : Nat) (h : Int) : FnC Try.prog 25 [ptr p] (ringB p A m c h) (.bool true) := by
  refine Ctr.intro Try.func25 rfl rfl (by decide +kernel) fun F hpre => ?_
  repeat' (first | (refine XL_id ?_; first | refine XL_nil ?_ | refine XL_guard_yes rfl rfl rfl ?_ | (refine XG_load ?_; refine XL_loadF tt_ok rfl (by assumption) rfl rfl rfl rfl ?_) | (refine XL_op tt_ok rfl rfl ?_)) | (refine X_id ?_; first | refine X_seq ?_ | (refine X_regionN (by repeat' (exact .nil)) ?_) | refine X_ret ?_) | (refine Y_id ?_; refine Y_then ?_))
  exact Y_fn1 rfl rfl rfl
set_option maxHeartbeats 4000000 in
theorem add_spec (p : Nat) (ys : List Int) (id : Int) : Ctr Try.prog 10 [ptr p, iV id] (fun _ => True) [isRing p ys] (fun v L => v = iV (addE ys id) ∧ L = [isRing p (addT ys id)]) := by
  refine Ctr.intro Try.func10 rfl rfl (by decide +kernel) fun F hpre => ?_
  refine X_openp 0 rfl (fun _ h => h) fun x hok => ?_
  obtain ⟨⟨A, c⟩, xs, h⟩ := x
  obtain ⟨hok, hy⟩ := hok
  dsimp only at hok hy ⊢
  have hth := there_spec p A xs.length c h
  have hcn := containsI_spec A xs.length c xs id (by have := hok.len; omega)
  have hlen := hok.len
  have hhl : h ≤ xs.length := by rcases hok.hand with hh | hh <;> omega
  have hyl : ys.length = xs.length := by rw [hy, rotL_len]
  have hmem : id ∈ ys ↔ id ∈ xs := by rw [hy]; exact rotL_mem
  by_cases h0 : id < 0
  · have he : addE ys id = 2 := by unfold addE; rw [if_pos h0]
    rw [he, addT_no (by rw [he]; decide)]
    repeat' (first | (refine XL_id ?_; first | refine XL_nil ?_ | (refine XG_call ?_; refine XL_fn hth rfl rfl (fun g hg hL => blk_at 0 rfl hL) ?_) | (refine XL_op tt_ok rfl rfl ?_; try (refine XL_dec_t (by omega) ?_))) | (refine X_id ?_; first | refine X_seq ?_ | (refine X_regionN (by repeat' (first | exact .nil | apply NL.cons)) ?_) | refine X_ret ?_ | refine X_block ?_ | refine X_cond_t rfl ?_ | refine X_cond_f rfl ?_) | (refine Y_id ?_; first | refine Y_then ?_ | refine Y_then_ret ?_ | refine Y_block_ret ?_))
    all_goals first
      | exact Y_ret1 rfl rfl (stars_fin [0, 0] rfl (isRing_mk rfl hok rfl hy.symm)) ⟨rfl, rfl⟩
      | (exfalso; omega)
      | skip
    
  · by_cases h1 : id ∈ xs
    · have he : addE ys id = 91 := by unfold addE; rw [if_neg h0, if_pos (hmem.2 h1)]
      rw [he, addT_no (by rw [he]; decide)]
      rw [decide_eq_true h1] at hcn
      repeat' (first | (refine XL_id ?_; first | refine XL_nil ?_ | (refine XG_load ?_; refine XL_load tt_ok 0 rfl rfl rfl rfl rfl rfl ?_) | (refine XG_call ?_; first | refine XL_fn hth rfl rfl (fun g hg hL => blk_at 0 rfl hL) ?_ | refine XL_fn hcn rfl rfl (fun g hg hL => rd_at 1 rfl hL) ?_) | (refine XL_op tt_ok rfl rfl ?_; try (refine XL_dec_f (by omega) ?_))) | (refine X_id ?_; first | refine X_seq ?_ | (refine X_regionN (by repeat' (first | exact .nil | apply NL.cons)) ?_) | refine X_ret ?_ | refine X_block ?_ | refine X_cond_t rfl ?_ | refine X_cond_f rfl ?_) | (refine Y_id ?_; first | refine Y_then ?_ | refine Y_then_ret ?_ | refine Y_block_ret ?_))
      all_goals first
        | exact Y_ret1 rfl rfl (stars_fin [0, 0] rfl (isRing_mk rfl hok rfl hy.symm)) ⟨rfl, rfl⟩
        | (exfalso; omega)
        | skip
      
    · rw [decide_eq_false h1] at hcn
      by_cases h2 : 4096 ≤ xs.length
      · have he : addE ys id = 4 := by unfold addE; rw [if_neg h0, if_neg (fun hh => h1 (hmem.1 hh)), if_pos (by omega)]
        rw [he, addT_no (by rw [he]; decide)]
        repeat' (first | (refine XL_id ?_; first | refine XL_nil ?_ | (refine XG_load ?_; refine XL_load tt_ok 0 rfl rfl rfl rfl rfl rfl ?_) | (refine XG_call ?_; first | (refine XL_op tt_ok rfl rfl ?_) | refine XL_fn hth rfl rfl (fun g hg hL => blk_at 0 rfl hL) ?_ | refine XL_fn hcn rfl rfl (fun g hg hL => rd_at 1 rfl hL) ?_) | (refine XL_op tt_ok rfl rfl ?_; try (first | refine XL_dec_t (by omega) ?_ | refine XL_dec_f (by omega) ?_))) | (refine X_id ?_; first | refine X_seq ?_ | (refine X_regionN (by repeat' (first | exact .nil | apply NL.cons)) ?_) | refine X_ret ?_ | refine X_block ?_ | refine X_cond_t rfl ?_ | refine X_cond_f rfl ?_) | (refine Y_id ?_; first | refine Y_then ?_ | refine Y_then_ret ?_ | refine Y_block_ret ?_))
        all_goals first
          | exact Y_ret1 rfl rfl (stars_fin [0, 0] rfl (isRing_mk rfl hok rfl hy.symm)) ⟨rfl, rfl⟩
          | (exfalso; omega)
          | skip
        
      · have he : addE ys id = 0 := addE_ok h0 (fun hh => h1 (hmem.1 hh)) (by omega)
        rw [addT_ok he, he]
        by_cases hz : h = 0
        · subst hz
          have hap := hok.append h1 h2
          repeat' (first | (refine XL_id ?_; first | refine XL_nil ?_ | (refine XG_load ?_; refine XL_load tt_ok 0 rfl rfl rfl rfl rfl rfl ?_) | (refine XG_call ?_; first | (refine XL_op tt_ok rfl rfl ?_) | refine XL_fn hth rfl rfl (fun g hg hL => blk_at 0 rfl hL) ?_ | refine XL_fn hcn rfl rfl (fun g hg hL => rd_at 1 rfl hL) ?_ | (refine XL_app1 tt_ok 2 0 id rfl rfl rfl rfl rfl rfl rfl rfl rfl rfl rfl (by show (_ : Nat) * 8 ≤ _; omega) (by omega) (fun _ _ => rfl) (fun A2 c2 => ?_))) | (refine XG_lit ?_; (refine XL_lit tt_ok rfl rfl rfl rfl rfl rfl rfl rfl rfl (fun _ => rfl) (fun b => ?_); refine XL_nB (by repeat' (first | exact .nil | apply NL.cons)) ?_)) | (refine XG_store ?_; (refine XL_store tt_ok 1 rfl rfl rfl rfl rfl rfl rfl rfl ?_; refine XL_nK 1 rfl (by repeat' (first | exact .nil | apply NL.cons)) ?_)) | (refine XL_op tt_ok rfl rfl ?_; try (first | refine XL_dec_t (by omega) ?_ | refine XL_dec_f (by omega) ?_))) | (refine X_id ?_; first | refine X_seq ?_ | (refine X_regionN (by repeat' (first | exact .nil | apply NL.cons)) ?_) | refine X_ret ?_ | refine X_block ?_ | refine X_cond_t rfl ?_ | refine X_cond_f rfl ?_) | (refine Y_id ?_; first | refine Y_then ?_ | refine Y_block_normal ?_))
          all_goals first
            | exact Y_ret1 rfl rfl (stars_fin [1, 1] rfl (isRing_mk (h := 0) rfl hap.1 (by rw [List.length_append]; rfl) (by rw [hap.2, hy]))) ⟨rfl, rfl⟩
            | (exfalso; omega)
            | skip
          
        · have hin := hok.insert hz h1 h2
          have hins := fun vb => insertI_spec A xs.length c xs h vb id (by omega) (by rcases hok.hand with hh | hh <;> omega)
          repeat' (first | (refine XL_id ?_; first | refine XL_nil ?_ | (refine XG_load ?_; first | refine XL_load tt_ok 0 rfl rfl rfl rfl rfl rfl ?_ | refine XL_load tt_ok 2 rfl rfl rfl rfl rfl rfl ?_) | (refine XG_call ?_; first | (refine XL_op tt_ok rfl rfl ?_) | refine XL_fn hth rfl rfl (fun g hg hL => blk_at 0 rfl hL) ?_ | refine XL_fn hcn rfl rfl (fun g hg hL => rd_at 1 rfl hL) ?_ | (refine XL_callK [1] (hins _) rfl rfl (fun _ => rfl) (fun g hg hL => by exact blk_at 0 rfl hL) (fun u L hv => ?_); obtain ⟨A2, c2, rfl, rfl⟩ := hv)) | (refine XG_lit ?_; (refine XL_lit tt_ok rfl rfl rfl rfl rfl rfl rfl rfl rfl (fun _ => rfl) (fun b => ?_); refine XL_nB (by repeat' (first | exact .nil | apply NL.cons)) ?_)) | (refine XG_store ?_; (refine XL_store tt_ok 2 rfl rfl rfl rfl rfl rfl rfl rfl ?_; refine XL_nK 2 rfl (by repeat' (first | exact .nil | apply NL.cons)) ?_)) | (refine XL_op tt_ok rfl rfl ?_; try (first | refine XL_int (wrap_i64 (by omega) (by omega)) ?_ | refine XL_dec_f (by omega) ?_))) | (refine XD_id ?_; first | refine XD_nil ?_ | (refine XD_id ?_; (first | (refine XD_uL rfl ?_; refine XD_s rfl rfl rfl (XV_load tt_ok rfl (blk_at 0 rfl hM) rfl rfl rfl) rfl ?_) | (refine XD_u rfl rfl ?_; refine XD_s rfl rfl rfl (XV_op tt_ok rfl) rfl ?_))) | refine XD_m rfl rfl ?_ | (refine XD_thaw thaw ?_; refine XD_l rfl rfl ?_)) | (refine X_id ?_; first | (refine X_drawS (id := 1) [0, 1, 2, 3, 4, 5, 6, 7, 8, 9, 10, 11, 12, 13, 14] (fun | 10 => .m | 11 => .m | 14 => .l | _ => .s) 8 (by (repeat apply Split.blk); apply Split.keep; repeat' (exact Split.nil)) mixed (by decide +kernel) ?_; intro G hFG hM thaw; show XD _ _ _ _ _ _ [0, 1, 2, 3, 4, 5, 6, 7, 8, 9, 10, 11, 12, 13, 14] _ _ _) | refine X_seq ?_ | (refine X_regionN (by repeat' (first | exact .nil | apply NL.cons)) ?_) | refine X_ret ?_ | refine X_block ?_ | refine X_cond_f rfl ?_) | (refine Y_id ?_; first | refine Y_then ?_ | refine Y_block_normal ?_ | refine Y_m ?_ | refine Y_l ?_))
          all_goals first
            | exact Y_ret1 rfl rfl (stars_fin [2, 0] rfl (isRing_mk (h := h + 1) rfl hin.1 (by simp only [List.length_append, List.length_cons, List.length_take, List.length_drop]; omega) (by rw [hin.2, hy]))) ⟨rfl, rfl⟩
            | (exfalso; omega)
            | skip
          
end Go.Proofs.Ytgbcagcaaegciaa
