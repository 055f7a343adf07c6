/- Address spaces: Brk. -/
import Derived.Test.YtalkcemelegohaaSk
import Derived.Test.YtalkcemelegohaaSB
set_option linter.unusedVariables false
set_option maxRecDepth 100000
namespace Go.Proofs.Ytalkcemelegohaa
open Go.RowKit Go.Cof
open Vm (Rg encRg rgV checkE prm lastR Fol Good)

theorem brkF_put {l : List Rg} {h n : Int} (hs : SGood l h) (hn : (0 ≤ n ∧ n ≤ 1024) ∧ n ≤ h + 64 ∧ h - 64 ≤ n) (h1 : n - h > 0) : brkF l h n = madeF (Vm.putP l ⟨524288 + h, n - h, 3⟩) n := by
  unfold brkF; rw [if_neg (by rw [sgood_iff.2 hs]; omega), if_neg (fun h => h hn), if_pos h1]
theorem brkF_cut {l : List Rg} {h n : Int} (hs : SGood l h) (hn : (0 ≤ n ∧ n ≤ 1024) ∧ n ≤ h + 64 ∧ h - 64 ≤ n) (h1 : n - h < 0) : brkF l h n = madeF (Vm.cutP l (524288 + n) (0 - (n - h))) n := by
  rw [Int.zero_sub]
  unfold brkF; rw [if_neg (by rw [sgood_iff.2 hs]; omega), if_neg (fun h => h hn), if_neg (by omega), if_pos h1]
theorem brkF_same {l : List Rg} {h n : Int} (hs : SGood l h) (hn : (0 ≤ n ∧ n ≤ 1024) ∧ n ≤ h + 64 ∧ h - 64 ≤ n) (h1 : n = h) : brkF l h n = (l, n, 0) := by
  unfold brkF; rw [if_neg (by rw [sgood_iff.2 hs]; omega), if_neg (fun h => h hn), if_neg (by omega), if_neg (by omega)]
set_option maxHeartbeats 8000000 in
theorem brk_spec (A : Option Addr) (m c : Nat) (l : List Rg) (h n : Int) (hm : m ≤ 9223372036854775807) (hmc : m ≤ c) (hl : ∀ r ∈ l, r.In) (q2 : -9223372036854775808 ≤ n ∧ n ≤ 9223372036854775807) :
    Ctr Try.prog 13 [.agg #[.slice A m c, iV h], iV n] (fun g => rdS encRg g A m l) [] (SRes (brkF l h n)) := by
  have hc := scheck_spec A m c l h hm hl
  by_cases hz : scheck l h = 0
  · have hs := sgood_iff.1 hz
    have hr := hs.rng
    have hlen8 := hs.fine.len
    rw [hz] at hc
    by_cases hn : (0 ≤ n ∧ n ≤ 1024) ∧ n ≤ h + 64 ∧ h - 64 ≤ n
    · by_cases hup : n - h > 0
      · have e3 := brkF_put hs hn hup
        have hk := Vm.put_spec A m c l ⟨524288 + h, n - h, 3⟩ hm hmc hl ⟨by show -9223372036854775808 ≤ 524288 + h ∧ 524288 + h ≤ 9223372036854775807; omega, by show -9223372036854775808 ≤ n - h ∧ n - h ≤ 9223372036854775807; omega, by show (0 : Int) ≤ 3 ∧ (3 : Int) < 256; omega⟩
        obtain ⟨⟨xs, e⟩, hX⟩ : ∃ X, Vm.putP l ⟨524288 + h, n - h, 3⟩ = X := ⟨_, rfl⟩
        rw [hX] at hk e3
        by_cases he : e = 0
        · subst he
          have e4 : madeF (xs, 0) n = (xs, n, 0) := if_pos rfl
          rw [e4] at e3
          refine Ctr.intro Try.func13 rfl rfl (by decide +kernel) fun F hpre => ?_
          have r1 : rdS encRg F.heap A m l := hpre
          repeat' (first | (refine XL_id ?_; first | refine XL_nil ?_ | refine XL_guard_yes rfl rfl rfl ?_ | (refine XG_load ?_; first | refine XL_loadW tt_ok 1 rfl rfl rfl rfl rfl rfl ?_ | refine XL_load tt_ok 1 rfl rfl rfl rfl rfl rfl ?_) | (refine XG_box ?_; (refine XL_box rfl (fun _ => rfl) (fun _ => ?_); refine XL_nB (by repeat' (first | exact .nil | apply NL.cons)) ?_)) | (refine XG_build ?_; (refine XL_build tt_ok rfl rfl rfl rfl rfl rfl rfl ?_; refine XL_aggN (by repeat' (first | exact .nil | apply NL.cons)) ?_)) | (refine XG_call ?_; first | refine XL_fn hc rfl rfl (fun g hg _ => r1.le hg) ?_ | (refine XL_callK [] hk rfl rfl (fun _ => rfl) (fun g hg hL => r1.le hg) (fun u L hv => ?_); obtain ⟨o, ho1, ho2, rfl, rfl⟩ := hv) | refine XL_fn (made_ok _ _ _ _) rfl rfl (fun _ _ _ => trivial) ?_) | (refine XG_alloc ?_; (refine XL_alloc tt_ok rfl rfl (fun _ => rfl) (fun b => ?_); refine XL_nB (by repeat' (first | exact .nil | apply NL.cons)) ?_)) | (refine XG_store ?_; (refine XL_storeW tt_ok 1 rfl rfl rfl rfl rfl rfl rfl ?_; refine XL_nK 1 rfl (by repeat' (first | exact .nil | apply NL.cons)) ?_)) | (refine XL_op tt_ok rfl rfl ?_; try (first | refine XL_int (wrap_i64 (by omega) (by omega)) ?_ | refine XL_dec_t (by omega) ?_ | refine XL_dec_f (by omega) ?_))) | (refine X_id ?_; first | refine X_seq ?_ | (refine X_regionN (by repeat' (first | exact .nil | apply NL.cons)) ?_) | refine X_skip ?_ | refine X_ret ?_ | refine X_block ?_ | refine X_cond_t rfl ?_ | refine X_cond_f rfl ?_) | (refine Y_id ?_; first | refine Y_then ?_ | refine Y_then_ret ?_ | refine Y_block_ret ?_))
          all_goals first
            | exact Y_res2 rfl (.cell tt_ok 1 rfl rfl rfl rfl rfl) (.tmp rfl) (stars_fin1 0 rfl) ⟨o, by rw [e3]; exact ho1, ho2, by rw [e3]; rfl, rfl⟩
            | exact Y_res2 rfl (.cell tt_ok 0 rfl rfl rfl rfl rfl) (.tmp rfl) (stars_fin1 1 rfl) ⟨o, by rw [e3]; exact ho1, ho2, by rw [e3]; rfl, rfl⟩
            | exact Y_res2 rfl (.cell tt_ok 0 rfl rfl rfl rfl rfl) (.tmp rfl) (stars_fin1 2 rfl) ⟨o, by rw [e3]; exact ho1, ho2, by rw [e3]; rfl, rfl⟩
            | exact Y_res2 rfl (.cell tt_ok 0 rfl rfl rfl rfl rfl) (.tmp rfl) (stars_fin1 3 rfl) ⟨o, by rw [e3]; exact ho1, ho2, by rw [e3]; rfl, rfl⟩
            | exact Y_res2 rfl (.cell tt_ok 1 rfl rfl rfl rfl rfl) (.tmp rfl) (stars_fin1 1 rfl) ⟨o, by rw [e3]; exact ho1, ho2, by rw [e3]; rfl, rfl⟩
            | exact Y_res2 rfl (.cell tt_ok 1 rfl rfl rfl rfl rfl) (.tmp rfl) (stars_fin1 2 rfl) ⟨o, by rw [e3]; exact ho1, ho2, by rw [e3]; rfl, rfl⟩
            | exact Y_res2 rfl (.cell tt_ok 1 rfl rfl rfl rfl rfl) (.tmp rfl) (stars_fin1 3 rfl) ⟨o, by rw [e3]; exact ho1, ho2, by rw [e3]; rfl, rfl⟩
            | (exfalso; omega)
            | skip
          
        · have e4 : madeF (xs, e) n = ([], 0, e) := if_neg he
          rw [e4] at e3
          refine Ctr.intro Try.func13 rfl rfl (by decide +kernel) fun F hpre => ?_
          have r1 : rdS encRg F.heap A m l := hpre
          repeat' (first | (refine XL_id ?_; first | refine XL_nil ?_ | refine XL_guard_yes rfl rfl rfl ?_ | (refine XG_load ?_; first | refine XL_loadW tt_ok 1 rfl rfl rfl rfl rfl rfl ?_ | refine XL_load tt_ok 1 rfl rfl rfl rfl rfl rfl ?_) | (refine XG_box ?_; (refine XL_box rfl (fun _ => rfl) (fun _ => ?_); refine XL_nB (by repeat' (first | exact .nil | apply NL.cons)) ?_)) | (refine XG_build ?_; (refine XL_build tt_ok rfl rfl rfl rfl rfl rfl rfl ?_; refine XL_aggN (by repeat' (first | exact .nil | apply NL.cons)) ?_)) | (refine XG_call ?_; first | refine XL_fn hc rfl rfl (fun g hg _ => r1.le hg) ?_ | (refine XL_callK [] hk rfl rfl (fun _ => rfl) (fun g hg hL => r1.le hg) (fun u L hv => ?_); obtain ⟨o, ho1, ho2, rfl, rfl⟩ := hv) | refine XL_fn (made_bad _ _ _ _ _ he) rfl rfl (fun _ _ _ => trivial) ?_) | (refine XG_alloc ?_; (refine XL_alloc tt_ok rfl rfl (fun _ => rfl) (fun b => ?_); refine XL_nB (by repeat' (first | exact .nil | apply NL.cons)) ?_)) | (refine XG_store ?_; (refine XL_storeW tt_ok 1 rfl rfl rfl rfl rfl rfl rfl ?_; refine XL_nK 1 rfl (by repeat' (first | exact .nil | apply NL.cons)) ?_)) | (refine XL_op tt_ok rfl rfl ?_; try (first | refine XL_int (wrap_i64 (by omega) (by omega)) ?_ | refine XL_dec_t (by omega) ?_ | refine XL_dec_f (by omega) ?_))) | (refine X_id ?_; first | refine X_seq ?_ | (refine X_regionN (by repeat' (first | exact .nil | apply NL.cons)) ?_) | refine X_skip ?_ | refine X_ret ?_ | refine X_block ?_ | refine X_cond_t rfl ?_ | refine X_cond_f rfl ?_) | (refine Y_id ?_; first | refine Y_then ?_ | refine Y_then_ret ?_ | refine Y_block_ret ?_))
          all_goals first
            | exact Y_res2 rfl (.cell tt_ok 1 rfl rfl rfl rfl rfl) (.tmp rfl) (fin_nil encRg) (SRes.none e3)
            | (exfalso; omega)
            | skip
          
      · by_cases hdn : n - h < 0
        · have e3 := brkF_cut hs hn hdn
          have hk := Vm.cut_spec A m c l (524288 + n) (0 - (n - h)) hm hmc hl (by omega)
          obtain ⟨⟨xs, e⟩, hX⟩ : ∃ X, Vm.cutP l (524288 + n) (0 - (n - h)) = X := ⟨_, rfl⟩
          rw [hX] at hk e3
          by_cases he : e = 0
          · subst he
            have e4 : madeF (xs, 0) n = (xs, n, 0) := if_pos rfl
            rw [e4] at e3
            refine Ctr.intro Try.func13 rfl rfl (by decide +kernel) fun F hpre => ?_
            have r1 : rdS encRg F.heap A m l := hpre
            repeat' (first | (refine XL_id ?_; first | refine XL_nil ?_ | refine XL_guard_yes rfl rfl rfl ?_ | (refine XG_load ?_; first | refine XL_loadW tt_ok 1 rfl rfl rfl rfl rfl rfl ?_ | refine XL_load tt_ok 1 rfl rfl rfl rfl rfl rfl ?_) | (refine XG_box ?_; (refine XL_box rfl (fun _ => rfl) (fun _ => ?_); refine XL_nB (by repeat' (first | exact .nil | apply NL.cons)) ?_)) | (refine XG_build ?_; (refine XL_build tt_ok rfl rfl rfl rfl rfl rfl rfl ?_; refine XL_aggN (by repeat' (first | exact .nil | apply NL.cons)) ?_)) | (refine XG_call ?_; first | refine XL_fn hc rfl rfl (fun g hg _ => r1.le hg) ?_ | (refine XL_callK [] hk rfl rfl (fun _ => rfl) (fun g hg hL => r1.le hg) (fun u L hv => ?_); obtain ⟨o, ho1, ho2, rfl, rfl⟩ := hv) | refine XL_fn (made_ok _ _ _ _) rfl rfl (fun _ _ _ => trivial) ?_) | (refine XG_alloc ?_; (refine XL_alloc tt_ok rfl rfl (fun _ => rfl) (fun b => ?_); refine XL_nB (by repeat' (first | exact .nil | apply NL.cons)) ?_)) | (refine XG_store ?_; (refine XL_storeW tt_ok 1 rfl rfl rfl rfl rfl rfl rfl ?_; refine XL_nK 1 rfl (by repeat' (first | exact .nil | apply NL.cons)) ?_)) | (refine XL_op tt_ok rfl rfl ?_; try (first | refine XL_int (wrap_i64 (by omega) (by omega)) ?_ | refine XL_dec_t (by omega) ?_ | refine XL_dec_f (by omega) ?_))) | (refine X_id ?_; first | refine X_seq ?_ | (refine X_regionN (by repeat' (first | exact .nil | apply NL.cons)) ?_) | refine X_skip ?_ | refine X_ret ?_ | refine X_block ?_ | refine X_cond_t rfl ?_ | refine X_cond_f rfl ?_) | (refine Y_id ?_; first | refine Y_then ?_ | refine Y_then_ret ?_ | refine Y_block_ret ?_))
            all_goals first
              | exact Y_res2 rfl (.cell tt_ok 1 rfl rfl rfl rfl rfl) (.tmp rfl) (stars_fin1 0 rfl) ⟨o, by rw [e3]; exact ho1, ho2, by rw [e3]; rfl, rfl⟩
              | exact Y_res2 rfl (.cell tt_ok 0 rfl rfl rfl rfl rfl) (.tmp rfl) (stars_fin1 1 rfl) ⟨o, by rw [e3]; exact ho1, ho2, by rw [e3]; rfl, rfl⟩
              | exact Y_res2 rfl (.cell tt_ok 0 rfl rfl rfl rfl rfl) (.tmp rfl) (stars_fin1 2 rfl) ⟨o, by rw [e3]; exact ho1, ho2, by rw [e3]; rfl, rfl⟩
              | exact Y_res2 rfl (.cell tt_ok 0 rfl rfl rfl rfl rfl) (.tmp rfl) (stars_fin1 3 rfl) ⟨o, by rw [e3]; exact ho1, ho2, by rw [e3]; rfl, rfl⟩
              | exact Y_res2 rfl (.cell tt_ok 1 rfl rfl rfl rfl rfl) (.tmp rfl) (stars_fin1 1 rfl) ⟨o, by rw [e3]; exact ho1, ho2, by rw [e3]; rfl, rfl⟩
              | exact Y_res2 rfl (.cell tt_ok 1 rfl rfl rfl rfl rfl) (.tmp rfl) (stars_fin1 2 rfl) ⟨o, by rw [e3]; exact ho1, ho2, by rw [e3]; rfl, rfl⟩
              | exact Y_res2 rfl (.cell tt_ok 1 rfl rfl rfl rfl rfl) (.tmp rfl) (stars_fin1 3 rfl) ⟨o, by rw [e3]; exact ho1, ho2, by rw [e3]; rfl, rfl⟩
              | (exfalso; omega)
              | skip
            
          · have e4 : madeF (xs, e) n = ([], 0, e) := if_neg he
            rw [e4] at e3
            refine Ctr.intro Try.func13 rfl rfl (by decide +kernel) fun F hpre => ?_
            have r1 : rdS encRg F.heap A m l := hpre
            repeat' (first | (refine XL_id ?_; first | refine XL_nil ?_ | refine XL_guard_yes rfl rfl rfl ?_ | (refine XG_load ?_; first | refine XL_loadW tt_ok 1 rfl rfl rfl rfl rfl rfl ?_ | refine XL_load tt_ok 1 rfl rfl rfl rfl rfl rfl ?_) | (refine XG_box ?_; (refine XL_box rfl (fun _ => rfl) (fun _ => ?_); refine XL_nB (by repeat' (first | exact .nil | apply NL.cons)) ?_)) | (refine XG_build ?_; (refine XL_build tt_ok rfl rfl rfl rfl rfl rfl rfl ?_; refine XL_aggN (by repeat' (first | exact .nil | apply NL.cons)) ?_)) | (refine XG_call ?_; first | refine XL_fn hc rfl rfl (fun g hg _ => r1.le hg) ?_ | (refine XL_callK [] hk rfl rfl (fun _ => rfl) (fun g hg hL => r1.le hg) (fun u L hv => ?_); obtain ⟨o, ho1, ho2, rfl, rfl⟩ := hv) | refine XL_fn (made_bad _ _ _ _ _ he) rfl rfl (fun _ _ _ => trivial) ?_) | (refine XG_alloc ?_; (refine XL_alloc tt_ok rfl rfl (fun _ => rfl) (fun b => ?_); refine XL_nB (by repeat' (first | exact .nil | apply NL.cons)) ?_)) | (refine XG_store ?_; (refine XL_storeW tt_ok 1 rfl rfl rfl rfl rfl rfl rfl ?_; refine XL_nK 1 rfl (by repeat' (first | exact .nil | apply NL.cons)) ?_)) | (refine XL_op tt_ok rfl rfl ?_; try (first | refine XL_int (wrap_i64 (by omega) (by omega)) ?_ | refine XL_dec_t (by omega) ?_ | refine XL_dec_f (by omega) ?_))) | (refine X_id ?_; first | refine X_seq ?_ | (refine X_regionN (by repeat' (first | exact .nil | apply NL.cons)) ?_) | refine X_skip ?_ | refine X_ret ?_ | refine X_block ?_ | refine X_cond_t rfl ?_ | refine X_cond_f rfl ?_) | (refine Y_id ?_; first | refine Y_then ?_ | refine Y_then_ret ?_ | refine Y_block_ret ?_))
            all_goals first
              | exact Y_res2 rfl (.cell tt_ok 1 rfl rfl rfl rfl rfl) (.tmp rfl) (fin_nil encRg) (SRes.none e3)
              | (exfalso; omega)
              | skip
            
        · have e3 := brkF_same hs hn (by omega)
          refine Ctr.intro Try.func13 rfl rfl (by decide +kernel) fun F hpre => ?_
          have r1 : rdS encRg F.heap A m l := hpre
          have hlen := r1.1
          refine X_mem (fun _ hs => stars_new (own_nil encRg _) hs) ?_
          repeat' (first | (refine XL_id ?_; first | refine XL_nil ?_ | refine XL_guard_yes rfl rfl rfl ?_ | (refine XG_load ?_; first | refine XL_loadW tt_ok 1 rfl rfl rfl rfl rfl rfl ?_ | refine XL_load tt_ok 1 rfl rfl rfl rfl rfl rfl ?_) | (refine XG_box ?_; (refine XL_box rfl (fun _ => rfl) (fun _ => ?_); refine XL_nB (by repeat' (first | exact .nil | apply NL.cons)) ?_)) | (refine XG_call ?_; first | refine XL_fn hc rfl rfl (fun g hg _ => r1.le hg) ?_ | (refine XL_appF (E := encRg) tt_ok 2 rfl rfl r1 rfl rfl rfl rfl rfl rfl rfl (by show (_ : Nat) * 24 ≤ _; omega) (by omega) (fun _ _ => rfl) (fun A2 c2 => ?_)) | refine XL_fn (made_ok _ _ _ _) rfl rfl (fun _ _ _ => trivial) ?_) | (refine XG_alloc ?_; (refine XL_alloc tt_ok rfl rfl (fun _ => rfl) (fun b => ?_); refine XL_nB (by repeat' (first | exact .nil | apply NL.cons)) ?_)) | (refine XG_store ?_; (refine XL_storeW tt_ok 0 rfl rfl rfl rfl rfl rfl rfl ?_; refine XL_nK 0 rfl (by repeat' (first | exact .nil | apply NL.cons)) ?_)) | (refine XL_op tt_ok rfl rfl ?_; try (first | refine XL_int (wrap_i64 (by omega) (by omega)) ?_ | refine XL_dec_f (by omega) ?_))) | (refine X_id ?_; first | refine X_seq ?_ | (refine X_regionN (by repeat' (first | exact .nil | apply NL.cons)) ?_) | refine X_skip ?_ | refine X_ret ?_ | refine X_block ?_ | refine X_cond_f rfl ?_) | (refine Y_id ?_; first | refine Y_then ?_ | refine Y_block_normal ?_))
          all_goals first
            | exact Y_res2 rfl (.cell tt_ok 1 rfl rfl rfl rfl rfl) (.tmp rfl) (stars_fin1 0 rfl) ⟨⟨A2, 0 + m, c2, l⟩, by rw [e3], by show 0 + m = l.length; omega, by rw [e3]; rfl, rfl⟩
            | exact Y_res2 rfl (.cell tt_ok 0 rfl rfl rfl rfl rfl) (.tmp rfl) (stars_fin1 1 rfl) ⟨⟨A2, 0 + m, c2, l⟩, by rw [e3], by show 0 + m = l.length; omega, by rw [e3]; rfl, rfl⟩
            | exact Y_res2 rfl (.cell tt_ok 0 rfl rfl rfl rfl rfl) (.tmp rfl) (stars_fin1 2 rfl) ⟨⟨A2, 0 + m, c2, l⟩, by rw [e3], by show 0 + m = l.length; omega, by rw [e3]; rfl, rfl⟩
            | exact Y_res2 rfl (.cell tt_ok 0 rfl rfl rfl rfl rfl) (.tmp rfl) (stars_fin1 3 rfl) ⟨⟨A2, 0 + m, c2, l⟩, by rw [e3], by show 0 + m = l.length; omega, by rw [e3]; rfl, rfl⟩
            | exact Y_res2 rfl (.cell tt_ok 1 rfl rfl rfl rfl rfl) (.tmp rfl) (stars_fin1 1 rfl) ⟨⟨A2, 0 + m, c2, l⟩, by rw [e3], by show 0 + m = l.length; omega, by rw [e3]; rfl, rfl⟩
            | exact Y_res2 rfl (.cell tt_ok 1 rfl rfl rfl rfl rfl) (.tmp rfl) (stars_fin1 2 rfl) ⟨⟨A2, 0 + m, c2, l⟩, by rw [e3], by show 0 + m = l.length; omega, by rw [e3]; rfl, rfl⟩
            | exact Y_res2 rfl (.cell tt_ok 1 rfl rfl rfl rfl rfl) (.tmp rfl) (stars_fin1 3 rfl) ⟨⟨A2, 0 + m, c2, l⟩, by rw [e3], by show 0 + m = l.length; omega, by rw [e3]; rfl, rfl⟩
            | exact Y_res2 rfl (.cell tt_ok 0 rfl rfl rfl rfl rfl) (.tmp rfl) (stars_fin1 0 rfl) ⟨⟨A2, 0 + m, c2, l⟩, by rw [e3], by show 0 + m = l.length; omega, by rw [e3]; rfl, rfl⟩
            | (exfalso; omega)
            | skip
          
    · have e2 := brkF_2 hs hn
      refine Ctr.intro Try.func13 rfl rfl (by decide +kernel) fun F hpre => ?_
      have r1 : rdS encRg F.heap A m l := hpre
      repeat' (first | (refine XL_id ?_; first | refine XL_nil ?_ | refine XL_guard_yes rfl rfl rfl ?_ | refine XL_guard_no rfl rfl rfl rfl rfl ?_ | (refine XG_load ?_; first | refine XL_loadW tt_ok 1 rfl rfl rfl rfl rfl rfl ?_ | refine XL_load tt_ok 1 rfl rfl rfl rfl rfl rfl ?_) | (refine XG_box ?_; (refine XL_box rfl (fun _ => rfl) (fun _ => ?_); refine XL_nB (by repeat' (first | exact .nil | apply NL.cons)) ?_)) | (refine XG_build ?_; (refine XL_build tt_ok rfl rfl rfl rfl rfl rfl rfl ?_; refine XL_aggN (by repeat' (first | exact .nil | apply NL.cons)) ?_)) | (refine XG_call ?_; refine XL_fn hc rfl rfl (fun g hg _ => r1.le hg) ?_) | (refine XG_alloc ?_; (refine XL_alloc tt_ok rfl rfl (fun _ => rfl) (fun b => ?_); refine XL_nB (by repeat' (first | exact .nil | apply NL.cons)) ?_)) | (refine XG_store ?_; (refine XL_storeW tt_ok 0 rfl rfl rfl rfl rfl rfl rfl ?_; refine XL_nK 0 rfl (by repeat' (first | exact .nil | apply NL.cons)) ?_)) | (refine XL_op tt_ok rfl rfl ?_; try (first | refine XL_int (wrap_i64 (by omega) (by omega)) ?_ | refine XL_dec_t (by omega) ?_ | refine XL_dec_f (by omega) ?_ | refine XL_dec (fun _ => ?_) (fun _ => ?_)))) | (refine X_id ?_; first | refine X_seq ?_ | (refine X_regionN (by repeat' (first | exact .nil | apply NL.cons)) ?_) | refine X_skip ?_ | refine X_ret ?_ | refine X_cond_t rfl ?_ | refine X_cond_f rfl ?_) | (refine Y_id ?_; first | refine Y_then ?_ | refine Y_then_ret ?_))
      all_goals first
        | (exfalso; omega)
        | exact Y_res2 rfl (.cell tt_ok 0 rfl rfl rfl rfl rfl) (.tmp rfl) (fin_nil encRg) (SRes.none e2)
        | skip
      
  · have e1 := brkF_1 (n := n) hz
    refine Ctr.intro Try.func13 rfl rfl (by decide +kernel) fun F hpre => ?_
    have r1 : rdS encRg F.heap A m l := hpre
    repeat' (first | (refine XL_id ?_; first | refine XL_nil ?_ | (refine XG_load ?_; refine XL_loadW tt_ok 1 rfl rfl rfl rfl rfl rfl ?_) | (refine XG_box ?_; (refine XL_box rfl (fun _ => rfl) (fun _ => ?_); refine XL_nB (by repeat' (first | exact .nil | apply NL.cons)) ?_)) | (refine XG_build ?_; (refine XL_build tt_ok rfl rfl rfl rfl rfl rfl rfl ?_; refine XL_aggN (by repeat' (first | exact .nil | apply NL.cons)) ?_)) | (refine XG_call ?_; refine XL_fn hc rfl rfl (fun g hg _ => r1.le hg) ?_) | (refine XG_alloc ?_; (refine XL_alloc tt_ok rfl rfl (fun _ => rfl) (fun b => ?_); refine XL_nB (by repeat' (first | exact .nil | apply NL.cons)) ?_)) | (refine XG_store ?_; (refine XL_storeW tt_ok 0 rfl rfl rfl rfl rfl rfl rfl ?_; refine XL_nK 0 rfl (by repeat' (first | exact .nil | apply NL.cons)) ?_)) | (refine XL_op tt_ok rfl rfl ?_; try (refine XL_dec_t (by omega) ?_))) | (refine X_id ?_; first | refine X_seq ?_ | (refine X_regionN (by repeat' (first | exact .nil | apply NL.cons)) ?_) | refine X_ret ?_ | refine X_cond_t rfl ?_) | (refine Y_id ?_; first | refine Y_then ?_ | refine Y_then_ret ?_))
    all_goals first
      | (exfalso; omega)
      | exact Y_res2 rfl (.cell tt_ok 0 rfl rfl rfl rfl rfl) (.tmp rfl) (fin_nil encRg) (SRes.none e1)
      | skip
    
end Go.Proofs.Ytalkcemelegohaa
