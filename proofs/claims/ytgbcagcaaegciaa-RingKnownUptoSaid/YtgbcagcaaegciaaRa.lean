/- Walks of the reference's ring: New, at, Add, Remove, turn, List. -/
import Derived.Test.YtgbcagcaaegciaaWc
set_option linter.unusedVariables false
namespace Go.Proofs.Ytgbcagcaaegciaa
open Go.RowKit Go.Cof

abbrev refB (p : Nat) (A : Option Addr) (m c : Nat) : HProp := blk p [.bool true, .slice A m c] 56
def isRef (p : Nat) (ys : List Int) : HProp := fun g => ∃ x : Option Addr × Nat, YOk ys ∧ stars [refB p x.1 ys.length x.2, own encN x.1 ys.length x.2 ys] g
theorem isRef_mk {p : Nat} {A : Option Addr} {m c : Nat} {ys l : List Int} (hok : YOk ys) (hm : m = ys.length) (hl : l = ys) : ∀ g, stars [refB p A m c, own encN A m c l] g → isRef p ys g := fun g hs => by
  subst hm hl
  exact ⟨(A, c), hok, hs⟩
theorem rnew_spec : Ctr Try.prog 9 [] (fun _ => True) [] (fun v L => ∃ p, v = ptr p ∧ L = [isRef p []]) := by
  refine Ctr.intro Try.func9 rfl rfl (by decide +kernel) fun F hpre => ?_
  repeat' (first | (refine XL_id ?_; first | refine XL_nil ?_ | (refine XG_box ?_; (refine XL_box rfl (fun _ => rfl) (fun _ => ?_); refine XL_nB (by repeat' (first | exact .nil | apply NL.cons)) ?_)) | (refine XG_build ?_; (refine XL_build tt_ok rfl rfl rfl rfl rfl rfl rfl ?_; refine XL_aggN (by repeat' (first | exact .nil | apply NL.cons)) ?_)) | (refine XL_op tt_ok rfl rfl ?_)) | (refine X_id ?_; first | refine X_seq ?_ | (refine X_regionN (by repeat' (exact .nil)) ?_) | refine X_ret ?_) | (refine Y_id ?_; refine Y_then ?_))
  all_goals first
    | exact Y_ret1 rfl rfl (stars_fin [0] rfl fun h hs => isRef_mk YOk.nil rfl rfl h (by obtain ⟨g1, g2, d, a, b, hA, hB⟩ := hs; exact ⟨g1, g2, d, a, b, hA, stars_new (own_nil encN _) hB⟩)) ⟨_, rfl, rfl⟩
    | skip
  
theorem rat_spec (p : Nat) (A : Option Addr) (m c : Nat) (ys : List Int) (id : Int) (hm : m ≤ 100000) : FnC Try.prog 28 [ptr p, iV id] (fun h => refB p A m c h ∧ rdS encN h A m ys) (iV (idxI (qI id) ys)) := by
  refine Ctr.intro Try.func28 rfl rfl (by decide +kernel) fun F hpre => ?_
  obtain ⟨hb, r1⟩ := hpre
  have hlen := r1.1
  have hfl := firstQ_le (qI id) ys
  repeat' (first | (refine XL_id ?_; first | refine XL_nil ?_ | (refine XL_op tt_ok rfl rfl ?_)) | (refine X_id ?_; first | refine X_seq ?_ | (refine X_regionN (by repeat' (exact .nil)) ?_) | refine X_block ?_) | (refine Y_id ?_; refine Y_then ?_))
  refine X_loopD [0, 1] (fun (i : Nat) => [(5, .int .i64 i)]) (fun _ => []) (fun i => i ≤ m ∧ ∀ j : Nat, j < i → qI id (Cof.get ys j) = false) (fun i => m - i) 0 rfl ⟨Nat.zero_le _, fun j hj => by omega⟩ (by (repeat' (first | exact trivial | refine And.intro rfl ?_)); done) (fun _ h => h) ?_
  intro i hi
  obtain ⟨hi, hx⟩ := hi
  by_cases hlt : i < m
  · by_cases hqi : id = Cof.get ys i
    · have e := firstQ_eq (q := qI id) (i := i) (by omega) hx (fun _ => decide_eq_true hqi)
      repeat' (first | (refine XL_id ?_; first | refine XL_nil ?_ | (refine XG_load ?_; first | refine XL_loadF tt_ok rfl (by assumption) rfl rfl rfl rfl ?_ | refine XL_el tt_ok rfl (by assumption) rfl (by omega) (by omega) rfl rfl rfl rfl ?_) | (refine XG_idx ?_; refine XL_idx tt_ok rfl rfl rfl rfl rfl (by assumption) (by omega) (by omega) rfl ?_) | (refine XL_op tt_ok rfl rfl ?_; try (refine XL_dec_t (by omega) ?_))) | (refine X_id ?_; first | refine X_seq ?_ | (refine X_regionN (by repeat' (exact .nil)) ?_) | refine X_skip ?_ | refine X_ret ?_ | refine X_block ?_ | refine X_cond_t rfl ?_) | (refine Y_id ?_; first | refine Y_then ?_ | refine Y_then_ret ?_ | refine Y_block_ret ?_))
      all_goals first
        | exact Y_fn1 rfl rfl (by unfold idxI; rw [e, if_pos (by omega)])
        | (exfalso; omega)
        | skip
      
    · repeat' (first | (refine XL_id ?_; first | refine XL_nil ?_ | (refine XG_load ?_; first | refine XL_loadF tt_ok rfl (by assumption) rfl rfl rfl rfl ?_ | refine XL_el tt_ok rfl (by assumption) rfl (by omega) (by omega) rfl rfl rfl rfl ?_) | (refine XG_idx ?_; refine XL_idx tt_ok rfl rfl rfl rfl rfl (by assumption) (by omega) (by omega) rfl ?_) | (refine XL_op tt_ok rfl rfl ?_; try (first | refine XL_int (wrap_i64 (by omega) (by omega)) ?_ | refine XL_dec_t (by omega) ?_ | refine XL_dec_f (by omega) ?_))) | (refine X_id ?_; first | refine X_seq ?_ | (refine X_regionN (by repeat' (exact .nil)) ?_) | refine X_skip ?_ | refine X_block ?_ | refine X_cond_t rfl ?_ | refine X_cond_f rfl ?_) | (refine Y_id ?_; first | refine Y_then ?_ | refine Y_block_normal ?_))
      all_goals first
        | exact Y_again (i + 1) fun _ _ hf hs => ⟨⟨by omega, fun j hj => by
            by_cases hj2 : j < i
            · exact hx j hj2
            · obtain rfl : j = i := by omega
              exact decide_eq_false hqi⟩, by omega, hf.sub (by (repeat' (first | exact trivial | refine And.intro rfl ?_)); done), hs⟩
        | (exfalso; omega)
        | skip
      
  · obtain rfl : i = m := by omega
    have e := firstQ_eq (q := qI id) (l := ys) (i := i) (by omega) hx (fun _ => by omega)
    repeat' (first | (refine XL_id ?_; first | refine XL_nil ?_ | (refine XG_load ?_; refine XL_loadF tt_ok rfl (by assumption) rfl rfl rfl rfl ?_) | (refine XL_op tt_ok rfl rfl ?_; try (refine XL_dec_f (by omega) ?_))) | (refine X_id ?_; first | refine X_seq ?_ | (refine X_regionN (by repeat' (exact .nil)) ?_) | refine X_ret ?_ | refine X_exit ?_ | refine X_cond_f rfl ?_) | (refine Y_id ?_; first | refine Y_then ?_ | refine Y_then_exit ?_ | refine Y_block_hit ?_))
    exact Y_fn1 rfl rfl (by unfold idxI; rw [e, if_neg (by omega)])
set_option maxHeartbeats 4000000 in
theorem radd_spec (p : Nat) (ys : List Int) (id : Int) : Ctr Try.prog 11 [ptr p, iV id] (fun _ => True) [isRef p ys] (fun v L => v = iV (addE ys id) ∧ L = [isRef p (addT ys id)]) := by
  refine Ctr.intro Try.func11 rfl rfl (by decide +kernel) fun F hpre => ?_
  refine X_openp 0 rfl (fun _ h => h) fun x hok => ?_
  obtain ⟨A, c⟩ := x
  dsimp only
  have hat := rat_spec p A ys.length c ys id (by have := hok.len; omega)
  have hlen := hok.len
  have hfm := firstQ_mem id ys
  unfold idxI at hat
  have hadd := hok.add id
  by_cases h0 : id < 0
  · have he : addE ys id = 2 := by unfold addE; rw [if_pos h0]
    rw [he, addT_no (by rw [he]; decide)]
    repeat' (first | (refine XL_id ?_; first | refine XL_nil ?_ | refine XL_guard_yes rfl rfl rfl ?_ | (refine XG_load ?_; refine XL_load tt_ok 0 rfl rfl rfl rfl rfl rfl ?_) | (refine XL_op tt_ok rfl rfl ?_; try (refine XL_dec_t (by omega) ?_))) | (refine X_id ?_; first | refine X_seq ?_ | (refine X_regionN (by repeat' (first | exact .nil | apply NL.cons)) ?_) | refine X_skip ?_ | refine X_ret ?_ | refine X_cond_t rfl ?_ | refine X_cond_f rfl ?_) | (refine Y_id ?_; first | refine Y_then ?_ | refine Y_then_ret ?_))
    all_goals first
      | exact Y_ret1 rfl rfl (stars_fin [0, 0] rfl (isRef_mk hok rfl rfl)) ⟨rfl, rfl⟩
      | (exfalso; omega)
      | skip
    
  · by_cases h1 : id ∈ ys
    · have he : addE ys id = 91 := by unfold addE; rw [if_neg h0, if_pos h1]
      rw [he, addT_no (by rw [he]; decide)]
      rw [if_pos (hfm.2 h1)] at hat
      repeat' (first | (refine XL_id ?_; first | refine XL_nil ?_ | refine XL_guard_yes rfl rfl rfl ?_ | (refine XG_load ?_; refine XL_load tt_ok 0 rfl rfl rfl rfl rfl rfl ?_) | (refine XG_call ?_; refine XL_fn hat rfl rfl (fun g hg hL => ⟨blk_at 0 rfl hL, rd_at 1 rfl hL⟩) ?_) | (refine XL_op tt_ok rfl rfl ?_; try (first | refine XL_dec_t (by omega) ?_ | refine XL_dec_f (by omega) ?_))) | (refine X_id ?_; first | refine X_seq ?_ | (refine X_regionN (by repeat' (first | exact .nil | apply NL.cons)) ?_) | refine X_skip ?_ | refine X_ret ?_ | refine X_cond_t rfl ?_ | refine X_cond_f rfl ?_) | (refine Y_id ?_; first | refine Y_then ?_ | refine Y_then_ret ?_))
      all_goals first
        | exact Y_ret1 rfl rfl (stars_fin [0, 0] rfl (isRef_mk hok rfl rfl)) ⟨rfl, rfl⟩
        | (exfalso; omega)
        | skip
      
    · rw [if_neg (fun hh => h1 (hfm.1 hh))] at hat
      by_cases h2 : 4096 ≤ ys.length
      · have he : addE ys id = 4 := by unfold addE; rw [if_neg h0, if_neg h1, if_pos (by omega)]
        rw [he, addT_no (by rw [he]; decide)]
        repeat' (first | (refine XL_id ?_; first | refine XL_nil ?_ | refine XL_guard_yes rfl rfl rfl ?_ | (refine XG_load ?_; refine XL_load tt_ok 0 rfl rfl rfl rfl rfl rfl ?_) | (refine XG_call ?_; first | (refine XL_op tt_ok rfl rfl ?_) | refine XL_fn hat rfl rfl (fun g hg hL => ⟨blk_at 0 rfl hL, rd_at 1 rfl hL⟩) ?_) | (refine XL_op tt_ok rfl rfl ?_; try (first | refine XL_dec_t (by omega) ?_ | refine XL_dec_f (by omega) ?_))) | (refine X_id ?_; first | refine X_seq ?_ | (refine X_regionN (by repeat' (first | exact .nil | apply NL.cons)) ?_) | refine X_skip ?_ | refine X_ret ?_ | refine X_cond_t rfl ?_ | refine X_cond_f rfl ?_) | (refine Y_id ?_; first | refine Y_then ?_ | refine Y_then_ret ?_))
        all_goals first
          | exact Y_ret1 rfl rfl (stars_fin [0, 0] rfl (isRef_mk hok rfl rfl)) ⟨rfl, rfl⟩
          | (exfalso; omega)
          | skip
        
      · have he : addE ys id = 0 := addE_ok h0 h1 h2
        rw [addT_ok he] at hadd ⊢
        rw [he]
        repeat' (first | (refine XL_id ?_; first | refine XL_nil ?_ | refine XL_guard_yes rfl rfl rfl ?_ | (refine XG_load ?_; refine XL_load tt_ok 0 rfl rfl rfl rfl rfl rfl ?_) | (refine XG_call ?_; first | (refine XL_op tt_ok rfl rfl ?_) | refine XL_fn hat rfl rfl (fun g hg hL => ⟨blk_at 0 rfl hL, rd_at 1 rfl hL⟩) ?_ | (refine XL_app1 tt_ok 2 0 id rfl rfl rfl rfl rfl rfl rfl rfl rfl rfl rfl (by show (_ : Nat) * 8 ≤ _; omega) (by omega) (fun _ _ => rfl) (fun A2 c2 => ?_))) | (refine XG_lit ?_; (refine XL_lit tt_ok rfl rfl rfl rfl rfl rfl rfl rfl rfl (fun _ => rfl) (fun b => ?_); refine XL_nB (by repeat' (first | exact .nil | apply NL.cons)) ?_)) | (refine XG_store ?_; (refine XL_store tt_ok 1 rfl rfl rfl rfl rfl rfl rfl rfl ?_; refine XL_nK 1 rfl (by repeat' (first | exact .nil | apply NL.cons)) ?_)) | (refine XL_op tt_ok rfl rfl ?_; try (refine XL_dec_f (by omega) ?_))) | (refine X_id ?_; first | refine X_seq ?_ | (refine X_regionN (by repeat' (first | exact .nil | apply NL.cons)) ?_) | refine X_skip ?_ | refine X_ret ?_ | refine X_cond_f rfl ?_) | (refine Y_id ?_; refine Y_then ?_))
        all_goals first
          | exact Y_ret1 rfl rfl (stars_fin [1, 1] rfl (isRef_mk hadd (by rw [List.length_append]; rfl) rfl)) ⟨rfl, rfl⟩
          | (exfalso; omega)
          | skip
        
def woI (l : List Int) (a : Nat) : List Int := l.take a ++ l.drop (a + 1)
theorem woI_same {l : List Int} {i a : Nat} (hi : i < l.length) (h : i = a) : (l.take (i + 1)).eraseIdx a = (l.take i).eraseIdx a := by
  subst h
  have h1 : (l.take i).length = i := by rw [List.length_take]; omega
  rw [take_snoc' l i hi, List.eraseIdx_append_of_length_le (by omega), h1, Nat.sub_self, List.eraseIdx_of_length_le (l := l.take i) (by omega)]
  simp
theorem woI_other {l : List Int} {i a : Nat} (hi : i < l.length) (h : i ≠ a) : (l.take (i + 1)).eraseIdx a = (l.take i).eraseIdx a ++ [Cof.get l i] := by
  rw [take_snoc' l i hi]
  by_cases h1 : a < i
  · rw [List.eraseIdx_append_of_lt_length (by rw [List.length_take]; omega)]
  · rw [List.eraseIdx_of_length_le (by rw [List.length_append, List.length_take]; simp; omega), List.eraseIdx_of_length_le (by rw [List.length_take]; omega)]
set_option maxHeartbeats 4000000 in
theorem rremove_spec (p : Nat) (ys : List Int) (id : Int) : Ctr Try.prog 29 [ptr p, iV id] (fun _ => True) [isRef p ys] (fun v L => v = iV (remE ys id) ∧ L = [isRef p (rmI id ys)]) := by
  refine Ctr.intro Try.func29 rfl rfl (by decide +kernel) fun F hpre => ?_
  refine X_openp 0 rfl (fun _ h => h) fun x hok => ?_
  obtain ⟨A, c⟩ := x
  dsimp only
  have hat := rat_spec p A ys.length c ys id (by have := hok.len; omega)
  have hlen := hok.len
  have hfm := firstQ_mem id ys
  unfold idxI at hat
  by_cases h1 : id ∈ ys
  · have hfl := hfm.2 h1
    rw [if_pos hfl] at hat
    rw [show remE ys id = 0 from if_pos h1]
    have her := erase_rmI hok.nodup hfl
    have hrm := hok.rm id
    obtain ⟨a, ha⟩ : ∃ a, a = firstQ (qI id) ys := ⟨_, rfl⟩
    rw [← ha] at her hat hfl
    repeat' (first | (refine XL_id ?_; first | refine XL_nil ?_ | refine XL_guard_yes rfl rfl rfl ?_ | (refine XG_load ?_; refine XL_load tt_ok 0 rfl rfl rfl rfl rfl rfl ?_) | (refine XG_call ?_; refine XL_fn hat rfl rfl (fun g hg hL => ⟨blk_at 0 rfl hL, rd_at 1 rfl hL⟩) ?_) | (refine XL_op tt_ok rfl rfl ?_; try (refine XL_dec_f (by omega) ?_))) | (refine X_id ?_; first | refine X_seq ?_ | (refine X_regionN (by repeat' (first | exact .nil | apply NL.cons)) ?_) | refine X_skip ?_ | refine X_block ?_ | refine X_cond_f rfl ?_) | (refine Y_id ?_; refine Y_then ?_))
    refine X_loopD3 [0, 5] (fun (i : Nat) (x : Option Addr × Nat) (zs : List Int) => [(7, .int .i64 i), (6, .slice x.1 zs.length x.2)]) (fun _ x zs => [own encN x.1 zs.length x.2 zs, refB p A ys.length c, own encN A ys.length c ys]) (fun i x zs => i ≤ ys.length ∧ zs = (ys.take i).eraseIdx a) (fun i _ _ => ys.length - i) 0 (none, 0) [] rfl ⟨Nat.zero_le _, rfl⟩ (by (repeat' (first | exact trivial | refine And.intro rfl ?_)); done) (fun h hs => stars_new (own_nil encN _) hs) ?_
    intro i x zs hi
    obtain ⟨A2, c2⟩ := x
    obtain ⟨hi, hz⟩ := hi
    have hzl : zs.length ≤ i := by rw [hz]; exact Nat.le_trans (List.length_eraseIdx_le _ _) (List.length_take_le _ _)
    by_cases hlt : i < ys.length
    · by_cases hia : i = a
      · have hst := woI_same hlt hia
        repeat' (first | (refine XL_id ?_; first | refine XL_nil ?_ | (refine XG_load ?_; refine XL_load tt_ok 1 rfl rfl rfl rfl rfl rfl ?_) | (refine XL_op tt_ok rfl rfl ?_; try (first | refine XL_int (wrap_i64 (by omega) (by omega)) ?_ | refine XL_dec_t (by omega) ?_ | refine XL_dec_f (by omega) ?_))) | (refine X_id ?_; first | refine X_seq ?_ | (refine X_regionN (by repeat' (first | exact .nil | apply NL.cons)) ?_) | refine X_skip ?_ | refine X_block ?_ | refine X_cond_t rfl ?_ | refine X_cond_f rfl ?_) | (refine Y_id ?_; first | refine Y_then ?_ | refine Y_block_normal ?_))
        all_goals first
          | exact Y_again (i + 1, (A2, c2), zs) fun _ _ hf hs => ⟨⟨by show i + 1 ≤ ys.length; omega, by rw [hst]; exact hz⟩, by show ys.length - (i + 1) < ys.length - i; omega, hf.sub (by (repeat' (first | exact trivial | refine And.intro rfl ?_)); done), hs⟩
          | (exfalso; omega)
          | skip
        
      · have hst := woI_other hlt hia
        repeat' (first | (refine XL_id ?_; first | refine XL_nil ?_ | (refine XG_load ?_; first | refine XL_load tt_ok 1 rfl rfl rfl rfl rfl rfl ?_ | refine XL_elo tt_ok 2 rfl rfl rfl (by omega) (by omega) rfl rfl rfl rfl ?_) | (refine XG_idx ?_; refine XL_idxo tt_ok 2 rfl rfl rfl rfl rfl rfl (by omega) (by omega) rfl ?_) | (refine XG_call ?_; first | (refine XL_op tt_ok rfl rfl ?_) | (refine XL_app1 tt_ok 1 0 (Cof.get ys i) rfl rfl rfl rfl rfl rfl rfl rfl rfl rfl rfl (by show (_ : Nat) * 8 ≤ _; omega) (by omega) (fun _ _ => rfl) (fun A3 c3 => ?_))) | (refine XG_lit ?_; (refine XL_lit tt_ok rfl rfl rfl rfl rfl rfl rfl rfl rfl (fun _ => rfl) (fun b => ?_); refine XL_nB (by repeat' (first | exact .nil | apply NL.cons)) ?_)) | (refine XL_op tt_ok rfl rfl ?_; try (first | refine XL_int (wrap_i64 (by omega) (by omega)) ?_ | refine XL_dec_t (by omega) ?_))) | (refine X_id ?_; first | refine X_seq ?_ | (refine X_regionN (by repeat' (first | exact .nil | apply NL.cons)) ?_) | refine X_skip ?_ | refine X_block ?_ | refine X_cond_t rfl ?_) | (refine Y_id ?_; first | refine Y_then ?_ | refine Y_block_normal ?_))
        all_goals first
          | exact Y_again (i + 1, (A3, c3), zs ++ [Cof.get ys i]) fun _ _ hf hs => ⟨⟨by show i + 1 ≤ ys.length; omega, by rw [hst, ← hz]⟩, by show ys.length - (i + 1) < ys.length - i; omega, hf.sub (by simp only [List.length_append, List.length_singleton]; exact (by (repeat' (first | exact trivial | refine And.intro rfl ?_)); done)), hs.imp fun h hs => by have h1 := stars_only [1, 1, 1] rfl h hs; simpa using h1⟩
          | (exfalso; omega)
          | skip
        
    · obtain rfl : i = ys.length := by omega
      rw [List.take_length, her] at hz
      subst hz
      repeat' (first | (refine XL_id ?_; first | refine XL_nil ?_ | (refine XG_load ?_; refine XL_load tt_ok 1 rfl rfl rfl rfl rfl rfl ?_) | (refine XG_store ?_; (refine XL_store tt_ok 1 rfl rfl rfl rfl rfl rfl rfl rfl ?_; refine XL_nK 1 rfl (by repeat' (first | exact .nil | apply NL.cons)) ?_)) | (refine XL_op tt_ok rfl rfl ?_; try (refine XL_dec_f (by omega) ?_))) | (refine X_id ?_; first | refine X_seq ?_ | (refine X_regionN (by repeat' (first | exact .nil | apply NL.cons)) ?_) | refine X_ret ?_ | refine X_exit ?_ | refine X_cond_f rfl ?_) | (refine Y_id ?_; first | refine Y_then ?_ | refine Y_then_exit ?_ | refine Y_block_hit ?_))
      all_goals first
        | exact Y_ret1 rfl rfl (stars_fin [1, 0] rfl (isRef_mk hrm rfl rfl)) ⟨rfl, rfl⟩
        | (exfalso; omega)
        | skip
      
  · rw [if_neg (fun hh => h1 (hfm.1 hh))] at hat
    rw [show remE ys id = 190 from if_neg h1, rmI_none h1]
    repeat' (first | (refine XL_id ?_; first | refine XL_nil ?_ | refine XL_guard_yes rfl rfl rfl ?_ | (refine XG_load ?_; refine XL_load tt_ok 0 rfl rfl rfl rfl rfl rfl ?_) | (refine XG_call ?_; refine XL_fn hat rfl rfl (fun g hg hL => ⟨blk_at 0 rfl hL, rd_at 1 rfl hL⟩) ?_) | (refine XL_op tt_ok rfl rfl ?_; try (refine XL_dec_t (by omega) ?_))) | (refine X_id ?_; first | refine X_seq ?_ | (refine X_regionN (by repeat' (first | exact .nil | apply NL.cons)) ?_) | refine X_skip ?_ | refine X_ret ?_ | refine X_cond_t rfl ?_ | refine X_cond_f rfl ?_) | (refine Y_id ?_; first | refine Y_then ?_ | refine Y_then_ret ?_))
    all_goals first
      | exact Y_ret1 rfl rfl (stars_fin [0, 0] rfl (isRef_mk hok rfl rfl)) ⟨rfl, rfl⟩
      | (exfalso; omega)
      | skip
    
set_option maxHeartbeats 4000000 in
theorem turn_spec (p : Nat) (A : Option Addr) (m c : Nat) (y : Int) (t : List Int) (hm : m = t.length + 1) (hm2 : m ≤ 4096) : Ctr Try.prog 36 [ptr p] (fun _ => True) [refB p A m c, own encN A m c (y :: t)] (fun v L => ∃ x : Option Addr × Nat, v = .tuple #[] ∧ L = [refB p x.1 m x.2, own encN x.1 m x.2 (t ++ [y])]) := by
  refine Ctr.intro Try.func36 rfl rfl (by decide +kernel) fun F hpre => ?_
  refine X_fact 1 rfl (fun _ o => And.intro (own_some o (by omega)) (own_len o)) fun hq2 => ?_
  obtain ⟨⟨bq, rfl⟩, _, hc1, hc2⟩ := hq2
  have e1 : 0 + (m - 1) + 1 = m := by omega
  repeat' (first | (refine XL_id ?_; first | refine XL_nil ?_ | (refine XL_mem (fun h hs => stars_new (own_nil encN _) hs) ?_; refine XL_app tt_ok 0 (m' := m - 1) (ys := t) rfl rfl (fun w hs => by obtain ⟨g, hg, _, hA⟩ := hs.at (k := 2) rfl; have h1 := ((own_rd hA).le hg).sub (l := 1) (k := m) (cc := c) (by omega) (by omega) (by omega); rw [List.take_of_length_le (by rw [List.length_cons]; omega)] at h1; exact h1) rfl rfl rfl rfl rfl rfl rfl (by show (_ : Nat) * 8 ≤ _; omega) (by omega) (fun _ _ => rfl) (fun A2 c2 => ?_)) | refine XL_ld (i := 0) (f := 0) tt_ok 2 rfl rfl rfl (by omega) rfl rfl rfl rfl ?_ | (refine XG_load ?_; first | refine XL_load tt_ok 0 rfl rfl rfl rfl rfl rfl ?_ | refine XL_load tt_ok 1 rfl rfl rfl rfl rfl rfl ?_) | (refine XG_idx ?_; refine XL_idxl tt_ok rfl rfl rfl rfl rfl (by omega) (by omega) rfl ?_) | (refine XG_slice ?_; refine XL_slice tt_ok rfl rfl rfl rfl (.lo (x := 1) (by omega) (by omega)) rfl rfl rfl rfl ?_) | (refine XG_call ?_; (refine XL_app1 tt_ok 1 0 y rfl rfl rfl rfl rfl rfl rfl rfl rfl rfl rfl (by show (_ : Nat) * 8 ≤ _; omega) (by omega) (fun _ _ => rfl) (fun A2 c2 => ?_); rw [e1])) | (refine XG_lit ?_; (refine XL_lit tt_ok rfl rfl rfl rfl rfl rfl rfl rfl rfl (fun _ => rfl) (fun b => ?_); refine XL_nB (by repeat' (first | exact .nil | apply NL.cons)) ?_)) | (refine XG_store ?_; (refine XL_store tt_ok 2 rfl rfl rfl rfl rfl rfl rfl rfl ?_; refine XL_nK 2 rfl (by repeat' (first | exact .nil | apply NL.cons)) ?_)) | (refine XL_op tt_ok rfl rfl ?_)) | (refine X_id ?_; first | refine X_seq ?_ | (refine X_regionN (by repeat' (first | exact .nil | apply NL.cons)) ?_)) | (refine Y_id ?_; refine Y_then ?_))
  all_goals first
    | exact Y_end0 rfl (stars_only [2, 1] rfl) ⟨(_, _), rfl, rfl⟩
    | skip
  
theorem rlist_spec (p : Nat) (ys : List Int) : Ctr Try.prog 15 [ptr p] (fun _ => True) [isRef p ys] (fun v L => ∃ A c, v = .slice A ys.length c ∧ L = [own encN A ys.length c ys, isRef p ys]) := by
  refine Ctr.intro Try.func15 rfl rfl (by decide +kernel) fun F hpre => ?_
  refine X_openp 0 rfl (fun _ h => h) fun x hok => ?_
  obtain ⟨A, c⟩ := x
  dsimp only
  have hlen := hok.len
  repeat' (first | (refine XL_id ?_; first | refine XL_nil ?_ | (refine XL_mem (fun h hs => stars_new (own_nil encN _) hs) ?_; refine XL_appO tt_ok 0 2 rfl rfl rfl rfl rfl rfl rfl rfl rfl rfl (by show (_ : Nat) * 8 ≤ _; omega) (by omega) (fun _ _ => rfl) (fun A2 c2 => ?_)) | (refine XG_load ?_; refine XL_load tt_ok 0 rfl rfl rfl rfl rfl rfl ?_) | (refine XL_op tt_ok rfl rfl ?_)) | (refine X_id ?_; first | refine X_seq ?_ | (refine X_regionN (by repeat' (first | exact .nil | apply NL.cons)) ?_) | refine X_skip ?_ | refine X_ret ?_ | refine X_cond_f rfl ?_) | (refine Y_id ?_; refine Y_then ?_))
  all_goals first
    | exact Y_ret1 rfl rfl (stars_two [0] [0, 0] rfl rfl (fun h hs => (by have h1 := stars_own hs; rw [Nat.zero_add] at h1; exact h1)) (isRef_mk hok rfl rfl)) ⟨_, _, by rw [Nat.zero_add], rfl⟩
    | skip
  
end Go.Proofs.Ytgbcagcaaegciaa
