/- Address spaces: Brk, the document's. -/
import Derived.Test.YtalkcemelegohaaSm
import Derived.Test.YtalkcemelegohaaVmPa
import Derived.Test.YtalkcemelegohaaVmRe
set_option linter.unusedVariables false
set_option maxRecDepth 100000
namespace Go.Proofs.Ytalkcemelegohaa
open Go.RowKit Go.Cof
open Vm (Rg encRg rgV checkE prm lastR Fol Good)

theorem rg_in {l : List Rg} (h : Vm.Fine l) : ∀ r ∈ l, r.In := fun r hr => by
  have k := h.good.ok r hr
  exact ⟨by have := k.p; have := k.e; have := k.n; omega, by have := k.p; have := k.e; have := k.n; omega, by have := k.m; omega⟩
set_option maxHeartbeats 8000000 in
theorem qbrk_spec (A : Option Addr) (m c : Nat) (l : List Rg) (h n : Int) (hm : m ≤ 9223372036854775807) (hl : ∀ r ∈ l, r.In) (q2 : -9223372036854775808 ≤ n ∧ n ≤ 9223372036854775807) :
    Ctr Try.prog 48 [.agg #[.slice A m c, iV h], iV n] (fun g => rdS encRg g A m l) [] (SRes (brkF l h n)) := by
  have hc := qcheck_spec A m c l h hm hl
  by_cases hz : scheck l h = 0
  · have hs := sgood_iff.1 hz
    have hr := hs.rng
    have hlen8 := hs.fine.len
    rw [hz] at hc
    by_cases hn : (0 ≤ n ∧ n ≤ 1024) ∧ n ≤ h + 64 ∧ h - 64 ≤ n
    · have e3 := brk_doc hs hn
      obtain ⟨a, ha, ma⟩ := cut_heap hs
      have hk := Vm.rcut_spec A m c l 524288 1024 hm hl (by omega)
      rw [Vm.cutP_ref, ha] at hk
      have alen := ma.fine.len
      by_cases hp : n > 0
      · have hk2 := fun (A2 : Option Addr) (m2 c2 : Nat) (h2 : m2 ≤ 9223372036854775807) => Vm.rput_spec A2 m2 c2 a ⟨524288, n, 3⟩ h2 (rg_in ma.fine) ⟨by show -9223372036854775808 ≤ (524288 : Int) ∧ (524288 : Int) ≤ 9223372036854775807; omega, by show -9223372036854775808 ≤ n ∧ n ≤ 9223372036854775807; omega, by show (0 : Int) ≤ 3 ∧ (3 : Int) < 256; omega⟩
        have e4 : brkQ l n = madeF (Vm.putP a ⟨524288, n, 3⟩) n := by unfold brkQ; rw [if_pos hp, ha]
        rw [e4] at e3
        rw [Vm.putP_ref] at hk2
        obtain ⟨⟨xs, e⟩, hX⟩ : ∃ X, Vm.putP a ⟨524288, n, 3⟩ = X := ⟨_, rfl⟩
        rw [hX] at hk2 e3
        by_cases he : e = 0
        · subst he
          have e4 : madeF (xs, 0) n = (xs, n, 0) := if_pos rfl
          rw [e4] at e3
          refine Ctr.intro Try.func48 rfl rfl (by decide +kernel) fun F hpre => ?_
          have r1 : rdS encRg F.heap A m l := hpre
          repeat' (first | (refine XL_id ?_; first | refine XL_nil ?_ | refine XL_guard_yes rfl rfl rfl ?_ | refine XL_guard_no rfl rfl rfl rfl rfl ?_ | (refine XG_load ?_; first | refine XL_loadW tt_ok 1 rfl rfl rfl rfl rfl rfl ?_ | refine XL_load tt_ok 1 rfl rfl rfl rfl rfl rfl ?_) | (refine XG_box ?_; (refine XL_box rfl (fun _ => rfl) (fun _ => ?_); refine XL_nB (by repeat' (first | exact .nil | apply NL.cons)) ?_)) | (refine XG_build ?_; (refine XL_build tt_ok rfl rfl rfl rfl rfl rfl rfl ?_; refine XL_aggN (by repeat' (first | exact .nil | apply NL.cons)) ?_)) | (refine XG_call ?_; first | (refine XL_fn (Vm.within_spec _ _ _) rfl rfl (fun _ _ _ => trivial) ?_; refine XL_dec (fun _ => ?_) (fun _ => ?_)) | refine XL_fn hc rfl rfl (fun g hg _ => r1.le hg) ?_ | (refine XL_callK [] hk rfl rfl (fun _ => rfl) (fun g hg hL => r1.le hg) (fun u L hv => ?_); obtain ⟨A2, m2, c2, x2, ho1, ho2, rfl, rfl⟩ := LRes.ex hv; obtain rfl : x2 = a := ho1) | (refine XL_callK [] (hk2 _ _ _ (by omega)) rfl rfl (fun _ => rfl) (fun g hg hL => rd_at 0 rfl hL) (fun u L hv => ?_); obtain ⟨o, ho3, ho4, rfl, rfl⟩ := hv) | refine XL_fn (with_ok _ _ _ _) rfl rfl (fun _ _ _ => trivial) ?_) | (refine XG_alloc ?_; (refine XL_alloc tt_ok rfl rfl (fun _ => rfl) (fun b => ?_); refine XL_nB (by repeat' (first | exact .nil | apply NL.cons)) ?_)) | (refine XG_store ?_; first | (refine XL_storeW tt_ok 0 rfl rfl rfl rfl rfl rfl rfl ?_; refine XL_nK 0 rfl (by repeat' (first | exact .nil | apply NL.cons)) ?_) | (refine XL_storeW tt_ok 2 rfl rfl rfl rfl rfl rfl rfl ?_; refine XL_nK 2 rfl (by repeat' (first | exact .nil | apply NL.cons)) ?_)) | (refine XL_op tt_ok rfl rfl ?_; try (first | refine XL_int (wrap_i64 (by omega) (by omega)) ?_ | refine XL_dec_t (by omega) ?_ | refine XL_dec_f (by omega) ?_))) | (refine X_id ?_; first | refine X_seq ?_ | (refine X_regionN (by repeat' (first | exact .nil | apply NL.cons)) ?_) | refine X_skip ?_ | refine X_ret ?_ | refine X_cond_t rfl ?_ | refine X_cond_f rfl ?_) | (refine Y_id ?_; first | refine Y_then ?_ | refine Y_then_ret ?_))
          all_goals first
            | exact Y_res2 rfl (.cell tt_ok 1 rfl rfl rfl rfl rfl) (.tmp rfl) (stars_fin1 0 rfl) ⟨o, by rw [e3]; exact ho3, ho4, by rw [e3]; rfl, rfl⟩
            | exact Y_res2 rfl (.cell tt_ok 2 rfl rfl rfl rfl rfl) (.tmp rfl) (stars_fin1 0 rfl) ⟨o, by rw [e3]; exact ho3, ho4, by rw [e3]; rfl, rfl⟩
            | (exfalso; omega)
            | skip
          
        · have e4 : madeF (xs, e) n = ([], 0, e) := if_neg he
          rw [e4] at e3
          refine Ctr.intro Try.func48 rfl rfl (by decide +kernel) fun F hpre => ?_
          have r1 : rdS encRg F.heap A m l := hpre
          repeat' (first | (refine XL_id ?_; first | refine XL_nil ?_ | refine XL_guard_yes rfl rfl rfl ?_ | refine XL_guard_no rfl rfl rfl rfl rfl ?_ | (refine XG_load ?_; first | refine XL_loadW tt_ok 1 rfl rfl rfl rfl rfl rfl ?_ | refine XL_load tt_ok 1 rfl rfl rfl rfl rfl rfl ?_) | (refine XG_box ?_; (refine XL_box rfl (fun _ => rfl) (fun _ => ?_); refine XL_nB (by repeat' (first | exact .nil | apply NL.cons)) ?_)) | (refine XG_build ?_; (refine XL_build tt_ok rfl rfl rfl rfl rfl rfl rfl ?_; refine XL_aggN (by repeat' (first | exact .nil | apply NL.cons)) ?_)) | (refine XG_call ?_; first | (refine XL_fn (Vm.within_spec _ _ _) rfl rfl (fun _ _ _ => trivial) ?_; refine XL_dec (fun _ => ?_) (fun _ => ?_)) | refine XL_fn hc rfl rfl (fun g hg _ => r1.le hg) ?_ | (refine XL_callK [] hk rfl rfl (fun _ => rfl) (fun g hg hL => r1.le hg) (fun u L hv => ?_); obtain ⟨A2, m2, c2, x2, ho1, ho2, rfl, rfl⟩ := LRes.ex hv; obtain rfl : x2 = a := ho1) | (refine XL_callK [] (hk2 _ _ _ (by omega)) rfl rfl (fun _ => rfl) (fun g hg hL => rd_at 0 rfl hL) (fun u L hv => ?_); obtain ⟨o, ho3, ho4, rfl, rfl⟩ := hv) | refine XL_fn (with_bad _ _ _ _ _ he) rfl rfl (fun _ _ _ => trivial) ?_) | (refine XG_alloc ?_; (refine XL_alloc tt_ok rfl rfl (fun _ => rfl) (fun b => ?_); refine XL_nB (by repeat' (first | exact .nil | apply NL.cons)) ?_)) | (refine XG_store ?_; first | (refine XL_storeW tt_ok 0 rfl rfl rfl rfl rfl rfl rfl ?_; refine XL_nK 0 rfl (by repeat' (first | exact .nil | apply NL.cons)) ?_) | (refine XL_storeW tt_ok 2 rfl rfl rfl rfl rfl rfl rfl ?_; refine XL_nK 2 rfl (by repeat' (first | exact .nil | apply NL.cons)) ?_)) | (refine XL_op tt_ok rfl rfl ?_; try (first | refine XL_int (wrap_i64 (by omega) (by omega)) ?_ | refine XL_dec_t (by omega) ?_ | refine XL_dec_f (by omega) ?_))) | (refine X_id ?_; first | refine X_seq ?_ | (refine X_regionN (by repeat' (first | exact .nil | apply NL.cons)) ?_) | refine X_skip ?_ | refine X_ret ?_ | refine X_cond_t rfl ?_ | refine X_cond_f rfl ?_) | (refine Y_id ?_; first | refine Y_then ?_ | refine Y_then_ret ?_))
          all_goals first
            | exact Y_res2 rfl (.cell tt_ok 1 rfl rfl rfl rfl rfl) (.tmp rfl) (fin_nil encRg) (SRes.none e3)
            | exact Y_res2 rfl (.cell tt_ok 2 rfl rfl rfl rfl rfl) (.tmp rfl) (fin_nil encRg) (SRes.none e3)
            | (exfalso; omega)
            | skip
          
      · have e4 : brkQ l n = (a, n, 0) := by unfold brkQ; rw [if_neg hp, ha]; rfl
        rw [e4] at e3
        refine Ctr.intro Try.func48 rfl rfl (by decide +kernel) fun F hpre => ?_
        have r1 : rdS encRg F.heap A m l := hpre
        repeat' (first | (refine XL_id ?_; first | refine XL_nil ?_ | refine XL_guard_yes rfl rfl rfl ?_ | refine XL_guard_no rfl rfl rfl rfl rfl ?_ | (refine XG_load ?_; first | refine XL_loadW tt_ok 1 rfl rfl rfl rfl rfl rfl ?_ | refine XL_load tt_ok 1 rfl rfl rfl rfl rfl rfl ?_) | (refine XG_box ?_; (refine XL_box rfl (fun _ => rfl) (fun _ => ?_); refine XL_nB (by repeat' (first | exact .nil | apply NL.cons)) ?_)) | (refine XG_build ?_; (refine XL_build tt_ok rfl rfl rfl rfl rfl rfl rfl ?_; refine XL_aggN (by repeat' (first | exact .nil | apply NL.cons)) ?_)) | (refine XG_call ?_; first | (refine XL_fn (Vm.within_spec _ _ _) rfl rfl (fun _ _ _ => trivial) ?_; refine XL_dec (fun _ => ?_) (fun _ => ?_)) | refine XL_fn hc rfl rfl (fun g hg _ => r1.le hg) ?_ | (refine XL_callK [] hk rfl rfl (fun _ => rfl) (fun g hg hL => r1.le hg) (fun u L hv => ?_); obtain ⟨o, ho1, ho2, rfl, rfl⟩ := hv) | refine XL_fn (with_ok _ _ _ _) rfl rfl (fun _ _ _ => trivial) ?_) | (refine XG_alloc ?_; (refine XL_alloc tt_ok rfl rfl (fun _ => rfl) (fun b => ?_); refine XL_nB (by repeat' (first | exact .nil | apply NL.cons)) ?_)) | (refine XG_store ?_; first | (refine XL_storeW tt_ok 0 rfl rfl rfl rfl rfl rfl rfl ?_; refine XL_nK 0 rfl (by repeat' (first | exact .nil | apply NL.cons)) ?_) | (refine XL_storeW tt_ok 1 rfl rfl rfl rfl rfl rfl rfl ?_; refine XL_nK 1 rfl (by repeat' (first | exact .nil | apply NL.cons)) ?_)) | (refine XL_op tt_ok rfl rfl ?_; try (first | refine XL_int (wrap_i64 (by omega) (by omega)) ?_ | refine XL_dec_t (by omega) ?_ | refine XL_dec_f (by omega) ?_))) | (refine X_id ?_; first | refine X_seq ?_ | (refine X_regionN (by repeat' (first | exact .nil | apply NL.cons)) ?_) | refine X_skip ?_ | refine X_ret ?_ | refine X_cond_t rfl ?_ | refine X_cond_f rfl ?_) | (refine Y_id ?_; first | refine Y_then ?_ | refine Y_then_ret ?_))
        all_goals first
          | exact Y_res2 rfl (.cell tt_ok 1 rfl rfl rfl rfl rfl) (.tmp rfl) (stars_fin1 0 rfl) ⟨o, by rw [e3]; exact ho1, ho2, by rw [e3]; rfl, rfl⟩
          | (exfalso; omega)
          | skip
        
    · have e2 := brkF_2 hs hn
      refine Ctr.intro Try.func48 rfl rfl (by decide +kernel) fun F hpre => ?_
      have r1 : rdS encRg F.heap A m l := hpre
      repeat' (first | (refine XL_id ?_; first | refine XL_nil ?_ | refine XL_guard_yes rfl rfl rfl ?_ | refine XL_guard_no rfl rfl rfl rfl rfl ?_ | (refine XG_load ?_; first | refine XL_loadW tt_ok 1 rfl rfl rfl rfl rfl rfl ?_ | refine XL_load tt_ok 1 rfl rfl rfl rfl rfl rfl ?_) | (refine XG_box ?_; (refine XL_box rfl (fun _ => rfl) (fun _ => ?_); refine XL_nB (by repeat' (first | exact .nil | apply NL.cons)) ?_)) | (refine XG_build ?_; (refine XL_build tt_ok rfl rfl rfl rfl rfl rfl rfl ?_; refine XL_aggN (by repeat' (first | exact .nil | apply NL.cons)) ?_)) | (refine XG_call ?_; first | (refine XL_fn (Vm.within_spec _ _ _) rfl rfl (fun _ _ _ => trivial) ?_; refine XL_dec (fun _ => ?_) (fun _ => ?_)) | refine XL_fn hc rfl rfl (fun g hg _ => r1.le hg) ?_) | (refine XG_alloc ?_; (refine XL_alloc tt_ok rfl rfl (fun _ => rfl) (fun b => ?_); refine XL_nB (by repeat' (first | exact .nil | apply NL.cons)) ?_)) | (refine XG_store ?_; (refine XL_storeW tt_ok 0 rfl rfl rfl rfl rfl rfl rfl ?_; refine XL_nK 0 rfl (by repeat' (first | exact .nil | apply NL.cons)) ?_)) | (refine XL_op tt_ok rfl rfl ?_; try (first | refine XL_int (wrap_i64 (by omega) (by omega)) ?_ | refine XL_dec_f (by omega) ?_))) | (refine X_id ?_; first | refine X_seq ?_ | (refine X_regionN (by repeat' (first | exact .nil | apply NL.cons)) ?_) | refine X_skip ?_ | refine X_ret ?_ | refine X_cond_t rfl ?_ | refine X_cond_f rfl ?_) | (refine Y_id ?_; first | refine Y_then ?_ | refine Y_then_ret ?_))
      all_goals first
        | (exfalso; omega)
        | exact Y_res2 rfl (.cell tt_ok 0 rfl rfl rfl rfl rfl) (.tmp rfl) (fin_nil encRg) (SRes.none e2)
        | skip
      
  · have e1 := brkF_1 (n := n) hz
    refine Ctr.intro Try.func48 rfl rfl (by decide +kernel) fun F hpre => ?_
    have r1 : rdS encRg F.heap A m l := hpre
    repeat' (first | (refine XL_id ?_; first | refine XL_nil ?_ | (refine XG_load ?_; refine XL_loadW tt_ok 1 rfl rfl rfl rfl rfl rfl ?_) | (refine XG_box ?_; (refine XL_box rfl (fun _ => rfl) (fun _ => ?_); refine XL_nB (by repeat' (first | exact .nil | apply NL.cons)) ?_)) | (refine XG_build ?_; (refine XL_build tt_ok rfl rfl rfl rfl rfl rfl rfl ?_; refine XL_aggN (by repeat' (first | exact .nil | apply NL.cons)) ?_)) | (refine XG_call ?_; refine XL_fn hc rfl rfl (fun g hg _ => r1.le hg) ?_) | (refine XG_alloc ?_; (refine XL_alloc tt_ok rfl rfl (fun _ => rfl) (fun b => ?_); refine XL_nB (by repeat' (first | exact .nil | apply NL.cons)) ?_)) | (refine XG_store ?_; (refine XL_storeW tt_ok 0 rfl rfl rfl rfl rfl rfl rfl ?_; refine XL_nK 0 rfl (by repeat' (first | exact .nil | apply NL.cons)) ?_)) | (refine XL_op tt_ok rfl rfl ?_; try (refine XL_dec_t (by omega) ?_))) | (refine X_id ?_; first | refine X_seq ?_ | (refine X_regionN (by repeat' (first | exact .nil | apply NL.cons)) ?_) | refine X_ret ?_ | refine X_cond_t rfl ?_) | (refine Y_id ?_; first | refine Y_then ?_ | refine Y_then_ret ?_))
    all_goals first
      | (exfalso; omega)
      | exact Y_res2 rfl (.cell tt_ok 0 rfl rfl rfl rfl rfl) (.tmp rfl) (fin_nil encRg) (SRes.none e1)
      | skip
    
end Go.Proofs.Ytalkcemelegohaa
