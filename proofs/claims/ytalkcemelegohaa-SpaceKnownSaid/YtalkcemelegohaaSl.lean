/- Address spaces: Map, the document's. -/
import Derived.Test.YtalkcemelegohaaSC
import Derived.Test.YtalkcemelegohaaSB
import Derived.Test.YtalkcemelegohaaVmPa
import Derived.Test.YtalkcemelegohaaVmRe
set_option linter.unusedVariables false
set_option maxRecDepth 100000
namespace Go.Proofs.Ytalkcemelegohaa
open Go.RowKit Go.Cof
open Vm (Rg encRg rgV checkE prm lastR Fol Good)

set_option maxHeartbeats 8000000 in
theorem qmap_at (A : Option Addr) (m c : Nat) (l : List Rg) (h p n q : Int) (hm : m ≤ 9223372036854775807) (hl : ∀ r ∈ l, r.In) (q1 : -9223372036854775808 ≤ p ∧ p ≤ 9223372036854775807) (q2 : -9223372036854775808 ≤ n ∧ n ≤ 9223372036854775807) (q3 : 0 ≤ q ∧ q < 256) (hp0 : ¬ p = 0) :
    Ctr Try.prog 45 [.agg #[.slice A m c, iV h], iV p, iV n, bV q] (fun g => rdS encRg g A m l) [] (MRes (mapF l h p n q)) := by
  have hc := qcheck_spec A m c l h hm hl
  have hw := qlow_spec p n q2.1 q2.2
  have hp := qperm_spec q
  have hk := Vm.rput_spec A m c l ⟨p, n, q⟩ hm hl ⟨q1, q2, q3⟩
  rw [Vm.putP_ref] at hk
  have e3 := fun h1 h2 => mapF_3 (l := l) (h := h) (p := p) (n := n) (q := q) h1 h2 hp0
  obtain ⟨⟨xs, e⟩, hX⟩ : ∃ X, Vm.putP l ⟨p, n, q⟩ = X := ⟨_, rfl⟩
  rw [hX] at hk e3
  by_cases he : e = 0
  · subst he
    have f1 : mapM (xs, 0) h p = (xs, h, p, 0) := if_pos rfl
    rw [f1] at e3
    refine Ctr.intro Try.func45 rfl rfl (by decide +kernel) fun F hpre => ?_
    have r1 : rdS encRg F.heap A m l := hpre
    repeat' (first | (refine XL_id ?_; first | refine XL_nil ?_ | refine XL_guard_yes rfl rfl rfl ?_ | refine XL_guard_no rfl rfl rfl rfl rfl ?_ | refine XL_guard_nou rfl rfl rfl rfl ?_ | (refine XG_load ?_; first | refine XL_loadW tt_ok 0 rfl rfl rfl rfl rfl rfl ?_ | refine XL_loadW tt_ok 1 rfl rfl rfl rfl rfl rfl ?_ | refine XL_load tt_ok 1 rfl rfl rfl rfl rfl rfl ?_ | refine XL_load tt_ok 2 rfl rfl rfl rfl rfl rfl ?_) | (refine XG_box ?_; (refine XL_box rfl (fun _ => rfl) (fun _ => ?_); refine XL_nB (by repeat' (first | exact .nil | apply NL.cons)) ?_)) | (refine XG_build ?_; (refine XL_build tt_ok rfl rfl rfl rfl rfl rfl rfl ?_; refine XL_aggN (by repeat' (first | exact .nil | apply NL.cons)) ?_)) | (refine XG_call ?_; first | (refine XL_fn (Vm.within_spec _ _ _) rfl rfl (fun _ _ _ => trivial) ?_; refine XL_dec (fun _ => ?_) (fun _ => ?_)) | refine XL_fn hc rfl rfl (fun g hg _ => r1.le hg) ?_ | (refine XL_fn hw rfl rfl (fun _ _ _ => trivial) ?_; refine XL_dec (fun _ => ?_) (fun _ => ?_)) | (refine XL_fn hp rfl rfl (fun _ _ _ => trivial) ?_; refine XL_bool (fun _ => ?_) (fun _ => ?_)) | (refine XL_callK [] hk rfl rfl (fun _ => rfl) (fun g hg hL => r1.le hg) (fun u L hv => ?_); obtain ⟨o, ho1, ho2, rfl, rfl⟩ := hv) | refine XL_fn (with_ok _ _ _ _) rfl rfl (fun _ _ _ => trivial) ?_) | (refine XG_alloc ?_; (refine XL_alloc tt_ok rfl rfl (fun _ => rfl) (fun b => ?_); refine XL_nB (by repeat' (first | exact .nil | apply NL.cons)) ?_)) | (refine XG_store ?_; first | (refine XL_storeW tt_ok 0 rfl rfl rfl rfl rfl rfl rfl ?_; refine XL_nK 0 rfl (by repeat' (first | exact .nil | apply NL.cons)) ?_) | (refine XL_storeW tt_ok 2 rfl rfl rfl rfl rfl rfl rfl ?_; refine XL_nK 2 rfl (by repeat' (first | exact .nil | apply NL.cons)) ?_)) | (refine XL_op tt_ok rfl rfl ?_; try (first | refine XL_dec_t (by omega) ?_ | refine XL_dec_f (by omega) ?_ | refine XL_dec (fun _ => ?_) (fun _ => ?_)))) | (refine X_id ?_; first | refine X_seq ?_ | (refine X_regionN (by repeat' (first | exact .nil | apply NL.cons)) ?_) | refine X_skip ?_ | refine X_ret ?_ | refine X_cond_t rfl ?_ | refine X_cond_f rfl ?_) | (refine Y_id ?_; first | refine Y_then ?_ | refine Y_then_ret ?_))
    all_goals first
      | exact Y_res3 rfl (.cell tt_ok 0 rfl rfl rfl rfl rfl) (.tmp rfl) (.tmp rfl) (fin_nil encRg) (MRes.none (mapF_1 (by assumption)))
      | exact Y_res3 rfl (.cell tt_ok 0 rfl rfl rfl rfl rfl) (.tmp rfl) (.tmp rfl) (fin_nil encRg) (MRes.none (mapF_2 (by omega) (fun h => by first | omega | simp_all)))
      | exact Y_res3 rfl (.cell tt_ok 1 rfl rfl rfl rfl rfl) (.tmp rfl) (.tmp rfl) (stars_fin1 0 rfl) ⟨o, by rw [e3 (by omega) ⟨by omega, .inr (by assumption), by assumption⟩]; exact ho1, ho2, by rw [e3 (by omega) ⟨by omega, .inr (by assumption), by assumption⟩]; rfl, rfl⟩
      | exact Y_res3 rfl (.cell tt_ok 2 rfl rfl rfl rfl rfl) (.tmp rfl) (.tmp rfl) (stars_fin1 1 rfl) ⟨o, by rw [e3 (by omega) ⟨by omega, .inr (by assumption), by assumption⟩]; exact ho1, ho2, by rw [e3 (by omega) ⟨by omega, .inr (by assumption), by assumption⟩]; rfl, rfl⟩
      | (exfalso; omega)
      | skip
    
  · have f2 : mapM (xs, e) h p = ([], 0, 0, e) := if_neg he
    rw [f2] at e3
    refine Ctr.intro Try.func45 rfl rfl (by decide +kernel) fun F hpre => ?_
    have r1 : rdS encRg F.heap A m l := hpre
    repeat' (first | (refine XL_id ?_; first | refine XL_nil ?_ | refine XL_guard_yes rfl rfl rfl ?_ | refine XL_guard_no rfl rfl rfl rfl rfl ?_ | refine XL_guard_nou rfl rfl rfl rfl ?_ | (refine XG_load ?_; first | refine XL_loadW tt_ok 0 rfl rfl rfl rfl rfl rfl ?_ | refine XL_loadW tt_ok 1 rfl rfl rfl rfl rfl rfl ?_ | refine XL_load tt_ok 1 rfl rfl rfl rfl rfl rfl ?_ | refine XL_load tt_ok 2 rfl rfl rfl rfl rfl rfl ?_) | (refine XG_box ?_; (refine XL_box rfl (fun _ => rfl) (fun _ => ?_); refine XL_nB (by repeat' (first | exact .nil | apply NL.cons)) ?_)) | (refine XG_build ?_; (refine XL_build tt_ok rfl rfl rfl rfl rfl rfl rfl ?_; refine XL_aggN (by repeat' (first | exact .nil | apply NL.cons)) ?_)) | (refine XG_call ?_; first | (refine XL_fn (Vm.within_spec _ _ _) rfl rfl (fun _ _ _ => trivial) ?_; refine XL_dec (fun _ => ?_) (fun _ => ?_)) | refine XL_fn hc rfl rfl (fun g hg _ => r1.le hg) ?_ | (refine XL_fn hw rfl rfl (fun _ _ _ => trivial) ?_; refine XL_dec (fun _ => ?_) (fun _ => ?_)) | (refine XL_fn hp rfl rfl (fun _ _ _ => trivial) ?_; refine XL_bool (fun _ => ?_) (fun _ => ?_)) | (refine XL_callK [] hk rfl rfl (fun _ => rfl) (fun g hg hL => r1.le hg) (fun u L hv => ?_); obtain ⟨o, ho1, ho2, rfl, rfl⟩ := hv) | refine XL_fn (with_bad _ _ _ _ _ he) rfl rfl (fun _ _ _ => trivial) ?_) | (refine XG_alloc ?_; (refine XL_alloc tt_ok rfl rfl (fun _ => rfl) (fun b => ?_); refine XL_nB (by repeat' (first | exact .nil | apply NL.cons)) ?_)) | (refine XG_store ?_; first | (refine XL_storeW tt_ok 0 rfl rfl rfl rfl rfl rfl rfl ?_; refine XL_nK 0 rfl (by repeat' (first | exact .nil | apply NL.cons)) ?_) | (refine XL_storeW tt_ok 2 rfl rfl rfl rfl rfl rfl rfl ?_; refine XL_nK 2 rfl (by repeat' (first | exact .nil | apply NL.cons)) ?_)) | (refine XL_op tt_ok rfl rfl ?_; try (first | refine XL_dec_t (by omega) ?_ | refine XL_dec_f (by omega) ?_ | refine XL_dec (fun _ => ?_) (fun _ => ?_)))) | (refine X_id ?_; first | refine X_seq ?_ | (refine X_regionN (by repeat' (first | exact .nil | apply NL.cons)) ?_) | refine X_skip ?_ | refine X_ret ?_ | refine X_cond_t rfl ?_ | refine X_cond_f rfl ?_) | (refine Y_id ?_; first | refine Y_then ?_ | refine Y_then_ret ?_))
    all_goals first
      | exact Y_res3 rfl (.cell tt_ok 0 rfl rfl rfl rfl rfl) (.tmp rfl) (.tmp rfl) (fin_nil encRg) (MRes.none (mapF_1 (by assumption)))
      | exact Y_res3 rfl (.cell tt_ok 0 rfl rfl rfl rfl rfl) (.tmp rfl) (.tmp rfl) (fin_nil encRg) (MRes.none (mapF_2 (by omega) (fun h => by first | omega | simp_all)))
      | exact Y_res3 rfl (.cell tt_ok 1 rfl rfl rfl rfl rfl) (.tmp rfl) (.tmp rfl) (fin_nil encRg) (MRes.none (e3 (by omega) ⟨by omega, .inr (by assumption), by assumption⟩))
      | exact Y_res3 rfl (.cell tt_ok 2 rfl rfl rfl rfl rfl) (.tmp rfl) (.tmp rfl) (fin_nil encRg) (MRes.none (e3 (by omega) ⟨by omega, .inr (by assumption), by assumption⟩))
      | (exfalso; omega)
      | skip
    
set_option maxHeartbeats 8000000 in
theorem qmap_gap (A : Option Addr) (m c : Nat) (l : List Rg) (h n q : Int) (hm : m ≤ 9223372036854775807) (hl : ∀ r ∈ l, r.In) (q2 : -9223372036854775808 ≤ n ∧ n ≤ 9223372036854775807) (q3 : 0 ≤ q ∧ q < 256) :
    Ctr Try.prog 45 [.agg #[.slice A m c, iV h], iV 0, iV n, bV q] (fun g => rdS encRg g A m l) [] (MRes (mapF l h 0 n q)) := by
  have hc := qcheck_spec A m c l h hm hl
  have hp := qperm_spec q
  have hgp := Vm.rgap_spec A m c l n 1 524288 hm hl
  rw [Vm.gapP_ref] at hgp
  have hat := gapP_rng l n 1 524288
  obtain ⟨⟨at_, ok_, ge⟩, hX⟩ : ∃ X, Vm.gapP l n 1 524288 = X := ⟨_, rfl⟩
  rw [hX] at hgp hat
  have hgp : FnC Try.prog 76 [.slice A m c, iV n, iV 1, iV 524288] (fun g => rdS encRg g A m l) (.tuple #[iV at_, .bool ok_, iV ge]) := hgp
  have hat : 0 ≤ at_ ∧ at_ ≤ 1048576 := hat
  have hk := Vm.rput_spec A m c l ⟨at_, n, q⟩ hm hl ⟨by show -9223372036854775808 ≤ at_ ∧ at_ ≤ 9223372036854775807; omega, q2, q3⟩
  rw [Vm.putP_ref] at hk
  have e3 := fun h1 h2 h3 => mapF_5 (l := l) (h := h) (q := q) h1 h2 hX h3
  obtain ⟨⟨xs, e⟩, hX2⟩ : ∃ X, Vm.putP l ⟨at_, n, q⟩ = X := ⟨_, rfl⟩
  rw [hX2] at hk e3
  cases ok_
  · have e4 := fun h1 h2 => mapF_4 (l := l) (h := h) (q := q) h1 h2 hX (fun h => Bool.noConfusion h.1)
    refine Ctr.intro Try.func45 rfl rfl (by decide +kernel) fun F hpre => ?_
    have r1 : rdS encRg F.heap A m l := hpre
    repeat' (first | (refine XL_id ?_; first | refine XL_nil ?_ | refine XL_guard_yes rfl rfl rfl ?_ | refine XL_guard_no rfl rfl rfl rfl rfl ?_ | refine XL_guard_nou rfl rfl rfl rfl ?_ | (refine XG_load ?_; first | refine XL_loadW tt_ok 1 rfl rfl rfl rfl rfl rfl ?_ | refine XL_load tt_ok 1 rfl rfl rfl rfl rfl rfl ?_) | (refine XG_box ?_; (refine XL_box rfl (fun _ => rfl) (fun _ => ?_); refine XL_nB (by repeat' (first | exact .nil | apply NL.cons)) ?_)) | (refine XG_build ?_; (refine XL_build tt_ok rfl rfl rfl rfl rfl rfl rfl ?_; refine XL_aggN (by repeat' (first | exact .nil | apply NL.cons)) ?_)) | (refine XG_call ?_; first | (refine XL_fn (Vm.within_spec _ _ _) rfl rfl (fun _ _ _ => trivial) ?_; refine XL_dec (fun _ => ?_) (fun _ => ?_)) | refine XL_fn hc rfl rfl (fun g hg _ => r1.le hg) ?_ | (refine XL_fn hp rfl rfl (fun _ _ _ => trivial) ?_; refine XL_bool (fun _ => ?_) (fun _ => ?_)) | refine XL_fn hgp rfl rfl (fun g hg _ => r1.le hg) ?_) | (refine XG_alloc ?_; (refine XL_alloc tt_ok rfl rfl (fun _ => rfl) (fun b => ?_); refine XL_nB (by repeat' (first | exact .nil | apply NL.cons)) ?_)) | (refine XG_store ?_; (refine XL_storeW tt_ok 0 rfl rfl rfl rfl rfl rfl rfl ?_; refine XL_nK 0 rfl (by repeat' (first | exact .nil | apply NL.cons)) ?_)) | (refine XL_op tt_ok rfl rfl ?_; try (first | refine XL_dec_t (by omega) ?_ | refine XL_dec_f (by omega) ?_ | refine XL_dec (fun _ => ?_) (fun _ => ?_)))) | (refine X_id ?_; first | refine X_seq ?_ | (refine X_regionN (by repeat' (first | exact .nil | apply NL.cons)) ?_) | refine X_skip ?_ | refine X_ret ?_ | refine X_cond_t rfl ?_ | refine X_cond_f rfl ?_) | (refine Y_id ?_; first | refine Y_then ?_ | refine Y_then_ret ?_))
    all_goals first
      | exact Y_res3 rfl (.cell tt_ok 0 rfl rfl rfl rfl rfl) (.tmp rfl) (.tmp rfl) (fin_nil encRg) (MRes.none (mapF_1 (by assumption)))
      | exact Y_res3 rfl (.cell tt_ok 0 rfl rfl rfl rfl rfl) (.tmp rfl) (.tmp rfl) (fin_nil encRg) (MRes.none (mapF_2 (by omega) (fun h => by first | omega | simp_all)))
      | exact Y_res3 rfl (.cell tt_ok 0 rfl rfl rfl rfl rfl) (.tmp rfl) (.tmp rfl) (fin_nil encRg) (MRes.none (e4 (by omega) ⟨by omega, by assumption⟩))
      | (exfalso; omega)
      | skip
    
  · have e4 := fun h1 h2 (h3 : ¬ ge = 0) => mapF_4 (l := l) (h := h) (q := q) h1 h2 hX (fun h => h3 h.2)
    by_cases he : e = 0
    · subst he
      have f1 : mapM (xs, 0) h at_ = (xs, h, at_, 0) := if_pos rfl
      rw [f1] at e3
      refine Ctr.intro Try.func45 rfl rfl (by decide +kernel) fun F hpre => ?_
      have r1 : rdS encRg F.heap A m l := hpre
      repeat' (first | (refine XL_id ?_; first | refine XL_nil ?_ | refine XL_guard_yes rfl rfl rfl ?_ | refine XL_guard_no rfl rfl rfl rfl rfl ?_ | refine XL_guard_nou rfl rfl rfl rfl ?_ | (refine XG_load ?_; first | refine XL_loadW tt_ok 0 rfl rfl rfl rfl rfl rfl ?_ | refine XL_loadW tt_ok 1 rfl rfl rfl rfl rfl rfl ?_ | refine XL_load tt_ok 1 rfl rfl rfl rfl rfl rfl ?_ | refine XL_load tt_ok 2 rfl rfl rfl rfl rfl rfl ?_) | (refine XG_box ?_; (refine XL_box rfl (fun _ => rfl) (fun _ => ?_); refine XL_nB (by repeat' (first | exact .nil | apply NL.cons)) ?_)) | (refine XG_build ?_; (refine XL_build tt_ok rfl rfl rfl rfl rfl rfl rfl ?_; refine XL_aggN (by repeat' (first | exact .nil | apply NL.cons)) ?_)) | (refine XG_call ?_; first | (refine XL_fn (Vm.within_spec _ _ _) rfl rfl (fun _ _ _ => trivial) ?_; refine XL_dec (fun _ => ?_) (fun _ => ?_)) | refine XL_fn hc rfl rfl (fun g hg _ => r1.le hg) ?_ | (refine XL_fn hp rfl rfl (fun _ _ _ => trivial) ?_; refine XL_bool (fun _ => ?_) (fun _ => ?_)) | refine XL_fn hgp rfl rfl (fun g hg _ => r1.le hg) ?_ | (refine XL_callK [] hk rfl rfl (fun _ => rfl) (fun g hg hL => r1.le hg) (fun u L hv => ?_); obtain ⟨o, ho1, ho2, rfl, rfl⟩ := hv) | refine XL_fn (with_ok _ _ _ _) rfl rfl (fun _ _ _ => trivial) ?_) | (refine XG_alloc ?_; (refine XL_alloc tt_ok rfl rfl (fun _ => rfl) (fun b => ?_); refine XL_nB (by repeat' (first | exact .nil | apply NL.cons)) ?_)) | (refine XG_store ?_; first | (refine XL_storeW tt_ok 0 rfl rfl rfl rfl rfl rfl rfl ?_; refine XL_nK 0 rfl (by repeat' (first | exact .nil | apply NL.cons)) ?_) | (refine XL_storeW tt_ok 2 rfl rfl rfl rfl rfl rfl rfl ?_; refine XL_nK 2 rfl (by repeat' (first | exact .nil | apply NL.cons)) ?_)) | (refine XL_op tt_ok rfl rfl ?_; try (first | refine XL_dec_t (by omega) ?_ | refine XL_dec_f (by omega) ?_ | refine XL_dec (fun _ => ?_) (fun _ => ?_)))) | (refine X_id ?_; first | refine X_seq ?_ | (refine X_regionN (by repeat' (first | exact .nil | apply NL.cons)) ?_) | refine X_skip ?_ | refine X_ret ?_ | refine X_cond_t rfl ?_ | refine X_cond_f rfl ?_) | (refine Y_id ?_; first | refine Y_then ?_ | refine Y_then_ret ?_))
      all_goals first
        | exact Y_res3 rfl (.cell tt_ok 0 rfl rfl rfl rfl rfl) (.tmp rfl) (.tmp rfl) (fin_nil encRg) (MRes.none (mapF_1 (by assumption)))
        | exact Y_res3 rfl (.cell tt_ok 0 rfl rfl rfl rfl rfl) (.tmp rfl) (.tmp rfl) (fin_nil encRg) (MRes.none (mapF_2 (by omega) (fun h => by first | omega | simp_all)))
        | exact Y_res3 rfl (.cell tt_ok 0 rfl rfl rfl rfl rfl) (.tmp rfl) (.tmp rfl) (fin_nil encRg) (MRes.none (e4 (by omega) ⟨by omega, by assumption⟩ (by omega)))
        | exact Y_res3 rfl (.cell tt_ok 1 rfl rfl rfl rfl rfl) (.tmp rfl) (.tmp rfl) (stars_fin1 0 rfl) ⟨o, by rw [e3 (by omega) ⟨by omega, by assumption⟩ ⟨rfl, by omega⟩]; exact ho1, ho2, by rw [e3 (by omega) ⟨by omega, by assumption⟩ ⟨rfl, by omega⟩]; rfl, rfl⟩
        | exact Y_res3 rfl (.cell tt_ok 2 rfl rfl rfl rfl rfl) (.tmp rfl) (.tmp rfl) (stars_fin1 1 rfl) ⟨o, by rw [e3 (by omega) ⟨by omega, by assumption⟩ ⟨rfl, by omega⟩]; exact ho1, ho2, by rw [e3 (by omega) ⟨by omega, by assumption⟩ ⟨rfl, by omega⟩]; rfl, rfl⟩
        | (exfalso; omega)
        | skip
      
    · have f2 : mapM (xs, e) h at_ = ([], 0, 0, e) := if_neg he
      rw [f2] at e3
      refine Ctr.intro Try.func45 rfl rfl (by decide +kernel) fun F hpre => ?_
      have r1 : rdS encRg F.heap A m l := hpre
      repeat' (first | (refine XL_id ?_; first | refine XL_nil ?_ | refine XL_guard_yes rfl rfl rfl ?_ | refine XL_guard_no rfl rfl rfl rfl rfl ?_ | refine XL_guard_nou rfl rfl rfl rfl ?_ | (refine XG_load ?_; first | refine XL_loadW tt_ok 0 rfl rfl rfl rfl rfl rfl ?_ | refine XL_loadW tt_ok 1 rfl rfl rfl rfl rfl rfl ?_ | refine XL_load tt_ok 1 rfl rfl rfl rfl rfl rfl ?_ | refine XL_load tt_ok 2 rfl rfl rfl rfl rfl rfl ?_) | (refine XG_box ?_; (refine XL_box rfl (fun _ => rfl) (fun _ => ?_); refine XL_nB (by repeat' (first | exact .nil | apply NL.cons)) ?_)) | (refine XG_build ?_; (refine XL_build tt_ok rfl rfl rfl rfl rfl rfl rfl ?_; refine XL_aggN (by repeat' (first | exact .nil | apply NL.cons)) ?_)) | (refine XG_call ?_; first | (refine XL_fn (Vm.within_spec _ _ _) rfl rfl (fun _ _ _ => trivial) ?_; refine XL_dec (fun _ => ?_) (fun _ => ?_)) | refine XL_fn hc rfl rfl (fun g hg _ => r1.le hg) ?_ | (refine XL_fn hp rfl rfl (fun _ _ _ => trivial) ?_; refine XL_bool (fun _ => ?_) (fun _ => ?_)) | refine XL_fn hgp rfl rfl (fun g hg _ => r1.le hg) ?_ | (refine XL_callK [] hk rfl rfl (fun _ => rfl) (fun g hg hL => r1.le hg) (fun u L hv => ?_); obtain ⟨o, ho1, ho2, rfl, rfl⟩ := hv) | refine XL_fn (with_bad _ _ _ _ _ he) rfl rfl (fun _ _ _ => trivial) ?_) | (refine XG_alloc ?_; (refine XL_alloc tt_ok rfl rfl (fun _ => rfl) (fun b => ?_); refine XL_nB (by repeat' (first | exact .nil | apply NL.cons)) ?_)) | (refine XG_store ?_; first | (refine XL_storeW tt_ok 0 rfl rfl rfl rfl rfl rfl rfl ?_; refine XL_nK 0 rfl (by repeat' (first | exact .nil | apply NL.cons)) ?_) | (refine XL_storeW tt_ok 2 rfl rfl rfl rfl rfl rfl rfl ?_; refine XL_nK 2 rfl (by repeat' (first | exact .nil | apply NL.cons)) ?_)) | (refine XL_op tt_ok rfl rfl ?_; try (first | refine XL_dec_t (by omega) ?_ | refine XL_dec_f (by omega) ?_ | refine XL_dec (fun _ => ?_) (fun _ => ?_)))) | (refine X_id ?_; first | refine X_seq ?_ | (refine X_regionN (by repeat' (first | exact .nil | apply NL.cons)) ?_) | refine X_skip ?_ | refine X_ret ?_ | refine X_cond_t rfl ?_ | refine X_cond_f rfl ?_) | (refine Y_id ?_; first | refine Y_then ?_ | refine Y_then_ret ?_))
      all_goals first
        | exact Y_res3 rfl (.cell tt_ok 0 rfl rfl rfl rfl rfl) (.tmp rfl) (.tmp rfl) (fin_nil encRg) (MRes.none (mapF_1 (by assumption)))
        | exact Y_res3 rfl (.cell tt_ok 0 rfl rfl rfl rfl rfl) (.tmp rfl) (.tmp rfl) (fin_nil encRg) (MRes.none (mapF_2 (by omega) (fun h => by first | omega | simp_all)))
        | exact Y_res3 rfl (.cell tt_ok 0 rfl rfl rfl rfl rfl) (.tmp rfl) (.tmp rfl) (fin_nil encRg) (MRes.none (e4 (by omega) ⟨by omega, by assumption⟩ (by omega)))
        | exact Y_res3 rfl (.cell tt_ok 1 rfl rfl rfl rfl rfl) (.tmp rfl) (.tmp rfl) (fin_nil encRg) (MRes.none (e3 (by omega) ⟨by omega, by assumption⟩ ⟨rfl, by omega⟩))
        | exact Y_res3 rfl (.cell tt_ok 2 rfl rfl rfl rfl rfl) (.tmp rfl) (.tmp rfl) (fin_nil encRg) (MRes.none (e3 (by omega) ⟨by omega, by assumption⟩ ⟨rfl, by omega⟩))
        | (exfalso; omega)
        | skip
      
theorem qmap_spec (A : Option Addr) (m c : Nat) (l : List Rg) (h p n q : Int) (hm : m ≤ 9223372036854775807) (hl : ∀ r ∈ l, r.In) (q1 : -9223372036854775808 ≤ p ∧ p ≤ 9223372036854775807) (q2 : -9223372036854775808 ≤ n ∧ n ≤ 9223372036854775807) (q3 : 0 ≤ q ∧ q < 256) :
    Ctr Try.prog 45 [.agg #[.slice A m c, iV h], iV p, iV n, bV q] (fun g => rdS encRg g A m l) [] (MRes (mapF l h p n q)) := by
  by_cases hp : p = 0
  · subst hp; exact qmap_gap A m c l h n q hm hl q2 q3
  · exact qmap_at A m c l h p n q hm hl q1 q2 q3 hp
end Go.Proofs.Ytalkcemelegohaa
