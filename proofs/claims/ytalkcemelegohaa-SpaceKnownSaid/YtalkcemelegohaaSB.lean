/- Address spaces: Unmap. Address spaces: Protect. Address spaces: Unmap, the document's. Address spaces: Protect, the document's. -/
import Derived.Test.YtalkcemelegohaaSA
import Derived.Test.YtalkcemelegohaaVmB
import Derived.Test.YtalkcemelegohaaVmRe
import Derived.Test.YtalkcemelegohaaVmPa
import Derived.Test.YtalkcemelegohaaVmPb
set_option linter.unusedVariables false
set_option maxRecDepth 100000
namespace Go.Proofs.Ytalkcemelegohaa
open Go.RowKit Go.Cof
open Vm (Rg encRg rgV checkE prm lastR Fol Good)

/-- An answer: a space of one's own, and what is wrong. -/
def SRes (x : List Rg × Int × Int) (v : Value) (L : List HProp) : Prop := ∃ o : Ow Rg, o.xs = x.1 ∧ o.m = o.xs.length ∧ v = .tuple #[.agg #[o.v, iV x.2.1], iV x.2.2] ∧ L = [o.own encRg]
theorem SRes.none {x : List Rg × Int × Int} {e : Int} (h : x = ([], 0, e)) : SRes x (.tuple #[.agg #[.slice .none 0 0, iV 0], iV e]) [(⟨.none, 0, 0, []⟩ : Ow Rg).own encRg] := by
  subst h; exact ⟨⟨.none, 0, 0, []⟩, rfl, rfl, rfl, rfl⟩
def madeF (x : List Rg × Int) (h : Int) : List Rg × Int × Int := if x.2 = 0 then (x.1, h, 0) else ([], 0, x.2)
def unmapF (l : List Rg) (h p n : Int) : List Rg × Int × Int :=
  if scheck l h ≠ 0 then ([], 0, scheck l h) else if ¬ lowP p n then ([], 0, 2) else madeF (Vm.cutP l p n) h
theorem made_ok (A : Option Addr) (m c : Nat) (h : Int) : FnC Try.prog 39 [.slice A m c, iV h, iV 0] (fun _ => True) (.tuple #[.agg #[.slice A m c, iV h], iV 0]) := made_spec A m c h 0
theorem made_bad (A : Option Addr) (m c : Nat) (h e : Int) (he : ¬ e = 0) : FnC Try.prog 39 [.slice A m c, iV h, iV e] (fun _ => True) (.tuple #[.agg #[.slice none 0 0, iV 0], iV e]) := by
  have := made_spec A m c h e; rwa [if_neg he] at this
set_option maxHeartbeats 4000000 in
theorem unmap_spec (A : Option Addr) (m c : Nat) (l : List Rg) (h p n : Int) (hm : m ≤ 9223372036854775807) (hmc : m ≤ c) (hl : ∀ r ∈ l, r.In) (q1 : -9223372036854775808 ≤ p ∧ p ≤ 9223372036854775807) (q2 : -9223372036854775808 ≤ n ∧ n ≤ 9223372036854775807) :
    Ctr Try.prog 11 [.agg #[.slice A m c, iV h], iV p, iV n] (fun g => rdS encRg g A m l) [] (SRes (unmapF l h p n)) := by
  have hc := scheck_spec A m c l h hm hl
  have hw := low_spec p n q2.1 q2.2
  have hk := Vm.cut_spec A m c l p n hm hmc hl q1
  have e1 : ¬ scheck l h = 0 → unmapF l h p n = ([], 0, scheck l h) := fun h1 => by unfold unmapF; rw [if_pos h1]
  have e2 : scheck l h = 0 → ¬ lowP p n → unmapF l h p n = ([], 0, 2) := fun h1 h2 => by unfold unmapF; rw [if_neg (by omega), if_pos h2]
  have e3 : scheck l h = 0 → lowP p n → unmapF l h p n = madeF (Vm.cutP l p n) h := fun h1 h2 => by unfold unmapF; rw [if_neg (by omega), if_neg (fun h => h h2)]
  obtain ⟨⟨xs, e⟩, hX⟩ : ∃ X, Vm.cutP l p n = X := ⟨_, rfl⟩
  rw [hX] at hk e3
  by_cases he : e = 0
  · subst he
    refine Ctr.intro Try.func11 rfl rfl (by decide +kernel) fun F hpre => ?_
    have r1 : rdS encRg F.heap A m l := hpre
    repeat' (first | (refine XL_id ?_; first | refine XL_nil ?_ | (refine XG_load ?_; first | refine XL_loadW tt_ok 1 rfl rfl rfl rfl rfl rfl ?_ | refine XL_load tt_ok 1 rfl rfl rfl rfl rfl rfl ?_ | refine XL_load tt_ok 2 rfl rfl rfl rfl rfl rfl ?_) | (refine XG_box ?_; (refine XL_box rfl (fun _ => rfl) (fun _ => ?_); refine XL_nB (by repeat' (first | exact .nil | apply NL.cons)) ?_)) | (refine XG_build ?_; (refine XL_build tt_ok rfl rfl rfl rfl rfl rfl rfl ?_; refine XL_aggN (by repeat' (first | exact .nil | apply NL.cons)) ?_)) | (refine XG_call ?_; first | refine XL_fn hc rfl rfl (fun g hg _ => r1.le hg) ?_ | (refine XL_fn hw rfl rfl (fun _ _ _ => trivial) ?_; refine XL_dec (fun _ => ?_) (fun _ => ?_)) | (refine XL_callK [] hk rfl rfl (fun _ => rfl) (fun g hg hL => r1.le hg) (fun u L hv => ?_); obtain ⟨o, ho1, ho2, rfl, rfl⟩ := hv) | refine XL_fn (made_ok _ _ _ _) rfl rfl (fun _ _ _ => trivial) ?_) | (refine XG_alloc ?_; (refine XL_alloc tt_ok rfl rfl (fun _ => rfl) (fun b => ?_); refine XL_nB (by repeat' (first | exact .nil | apply NL.cons)) ?_)) | (refine XG_store ?_; first | (refine XL_storeW tt_ok 0 rfl rfl rfl rfl rfl rfl rfl ?_; refine XL_nK 0 rfl (by repeat' (first | exact .nil | apply NL.cons)) ?_) | (refine XL_storeW tt_ok 1 rfl rfl rfl rfl rfl rfl rfl ?_; refine XL_nK 1 rfl (by repeat' (first | exact .nil | apply NL.cons)) ?_)) | (refine XL_op tt_ok rfl rfl ?_; try (refine XL_dec (fun _ => ?_) (fun _ => ?_)))) | (refine X_id ?_; first | refine X_seq ?_ | (refine X_regionN (by repeat' (first | exact .nil | apply NL.cons)) ?_) | refine X_skip ?_ | refine X_ret ?_ | refine X_cond_t rfl ?_ | refine X_cond_f rfl ?_) | (refine Y_id ?_; first | refine Y_then ?_ | refine Y_then_ret ?_))
    all_goals first
      | exact Y_res2 rfl (.cell tt_ok 0 rfl rfl rfl rfl rfl) (.tmp rfl) (fin_nil encRg) (SRes.none (e1 (by assumption)))
      | exact Y_res2 rfl (.cell tt_ok 0 rfl rfl rfl rfl rfl) (.tmp rfl) (fin_nil encRg) (SRes.none (e2 (by omega) (by assumption)))
      | exact Y_res2 rfl (.cell tt_ok 1 rfl rfl rfl rfl rfl) (.tmp rfl) (stars_fin1 0 rfl) ⟨o, by rw [e3 (by omega) (by assumption)]; exact ho1, ho2, by rw [e3 (by omega) (by assumption)]; rfl, rfl⟩
      | skip
    
  · have e4 : madeF (xs, e) h = ([], 0, e) := if_neg he
    rw [e4] at e3
    refine Ctr.intro Try.func11 rfl rfl (by decide +kernel) fun F hpre => ?_
    have r1 : rdS encRg F.heap A m l := hpre
    repeat' (first | (refine XL_id ?_; first | refine XL_nil ?_ | (refine XG_load ?_; first | refine XL_loadW tt_ok 1 rfl rfl rfl rfl rfl rfl ?_ | refine XL_load tt_ok 1 rfl rfl rfl rfl rfl rfl ?_ | refine XL_load tt_ok 2 rfl rfl rfl rfl rfl rfl ?_) | (refine XG_box ?_; (refine XL_box rfl (fun _ => rfl) (fun _ => ?_); refine XL_nB (by repeat' (first | exact .nil | apply NL.cons)) ?_)) | (refine XG_build ?_; (refine XL_build tt_ok rfl rfl rfl rfl rfl rfl rfl ?_; refine XL_aggN (by repeat' (first | exact .nil | apply NL.cons)) ?_)) | (refine XG_call ?_; first | refine XL_fn hc rfl rfl (fun g hg _ => r1.le hg) ?_ | (refine XL_fn hw rfl rfl (fun _ _ _ => trivial) ?_; refine XL_dec (fun _ => ?_) (fun _ => ?_)) | (refine XL_callK [] hk rfl rfl (fun _ => rfl) (fun g hg hL => r1.le hg) (fun u L hv => ?_); obtain ⟨o, ho1, ho2, rfl, rfl⟩ := hv) | refine XL_fn (made_bad _ _ _ _ _ he) rfl rfl (fun _ _ _ => trivial) ?_) | (refine XG_alloc ?_; (refine XL_alloc tt_ok rfl rfl (fun _ => rfl) (fun b => ?_); refine XL_nB (by repeat' (first | exact .nil | apply NL.cons)) ?_)) | (refine XG_store ?_; first | (refine XL_storeW tt_ok 0 rfl rfl rfl rfl rfl rfl rfl ?_; refine XL_nK 0 rfl (by repeat' (first | exact .nil | apply NL.cons)) ?_) | (refine XL_storeW tt_ok 1 rfl rfl rfl rfl rfl rfl rfl ?_; refine XL_nK 1 rfl (by repeat' (first | exact .nil | apply NL.cons)) ?_)) | (refine XL_op tt_ok rfl rfl ?_; try (refine XL_dec (fun _ => ?_) (fun _ => ?_)))) | (refine X_id ?_; first | refine X_seq ?_ | (refine X_regionN (by repeat' (first | exact .nil | apply NL.cons)) ?_) | refine X_skip ?_ | refine X_ret ?_ | refine X_cond_t rfl ?_ | refine X_cond_f rfl ?_) | (refine Y_id ?_; first | refine Y_then ?_ | refine Y_then_ret ?_))
    all_goals first
      | exact Y_res2 rfl (.cell tt_ok 0 rfl rfl rfl rfl rfl) (.tmp rfl) (fin_nil encRg) (SRes.none (e1 (by assumption)))
      | exact Y_res2 rfl (.cell tt_ok 0 rfl rfl rfl rfl rfl) (.tmp rfl) (fin_nil encRg) (SRes.none (e2 (by omega) (by assumption)))
      | exact Y_res2 rfl (.cell tt_ok 1 rfl rfl rfl rfl rfl) (.tmp rfl) (fin_nil encRg) (SRes.none (e3 (by omega) (by assumption)))
      | skip
    
end Go.Proofs.Ytalkcemelegohaa
set_option linter.unusedVariables false
set_option maxRecDepth 100000
namespace Go.Proofs.Ytalkcemelegohaa
open Go.RowKit Go.Cof
open Vm (Rg encRg rgV checkE prm lastR Fol Good)

def protectF (l : List Rg) (h p n q : Int) : List Rg × Int × Int :=
  if scheck l h ≠ 0 then ([], 0, scheck l h) else if ¬ (lowP p n ∧ prm q = true) then ([], 0, 2) else madeF (Vm.protP l p n q) h
set_option maxHeartbeats 4000000 in
theorem protect_spec (A : Option Addr) (m c : Nat) (l : List Rg) (h p n q : Int) (hm : m ≤ 9223372036854775807) (hmc : m ≤ c) (hl : ∀ r ∈ l, r.In) (q1 : -9223372036854775808 ≤ p ∧ p ≤ 9223372036854775807) (q2 : -9223372036854775808 ≤ n ∧ n ≤ 9223372036854775807) :
    Ctr Try.prog 32 [.agg #[.slice A m c, iV h], iV p, iV n, bV q] (fun g => rdS encRg g A m l) [] (SRes (protectF l h p n q)) := by
  have hc := scheck_spec A m c l h hm hl
  have hw := low_spec p n q2.1 q2.2
  have hp := perms_spec q
  have hk := Vm.prot_spec A m c l p n q hm hmc hl q1
  have e1 : ¬ scheck l h = 0 → protectF l h p n q = ([], 0, scheck l h) := fun h1 => by unfold protectF; rw [if_pos h1]
  have e2 : scheck l h = 0 → ¬ (lowP p n ∧ prm q = true) → protectF l h p n q = ([], 0, 2) := fun h1 h2 => by unfold protectF; rw [if_neg (by omega), if_pos h2]
  have e3 : scheck l h = 0 → lowP p n ∧ prm q = true → protectF l h p n q = madeF (Vm.protP l p n q) h := fun h1 h2 => by unfold protectF; rw [if_neg (by omega), if_neg (fun h => h h2)]
  obtain ⟨⟨xs, e⟩, hX⟩ : ∃ X, Vm.protP l p n q = X := ⟨_, rfl⟩
  rw [hX] at hk e3
  by_cases he : e = 0
  · subst he
    refine Ctr.intro Try.func32 rfl rfl (by decide +kernel) fun F hpre => ?_
    have r1 : rdS encRg F.heap A m l := hpre
    repeat' (first | (refine XL_id ?_; first | refine XL_nil ?_ | refine XL_guard_yes rfl rfl rfl ?_ | refine XL_guard_no rfl rfl rfl rfl rfl ?_ | (refine XG_load ?_; first | refine XL_loadW tt_ok 1 rfl rfl rfl rfl rfl rfl ?_ | refine XL_load tt_ok 1 rfl rfl rfl rfl rfl rfl ?_ | refine XL_load tt_ok 2 rfl rfl rfl rfl rfl rfl ?_) | (refine XG_box ?_; (refine XL_box rfl (fun _ => rfl) (fun _ => ?_); refine XL_nB (by repeat' (first | exact .nil | apply NL.cons)) ?_)) | (refine XG_build ?_; (refine XL_build tt_ok rfl rfl rfl rfl rfl rfl rfl ?_; refine XL_aggN (by repeat' (first | exact .nil | apply NL.cons)) ?_)) | (refine XG_call ?_; first | refine XL_fn hc rfl rfl (fun g hg _ => r1.le hg) ?_ | (refine XL_fn hw rfl rfl (fun _ _ _ => trivial) ?_; refine XL_dec (fun _ => ?_) (fun _ => ?_)) | (refine XL_fn hp rfl rfl (fun _ _ _ => trivial) ?_; refine XL_bool (fun _ => ?_) (fun _ => ?_)) | (refine XL_callK [] hk rfl rfl (fun _ => rfl) (fun g hg hL => r1.le hg) (fun u L hv => ?_); obtain ⟨o, ho1, ho2, rfl, rfl⟩ := hv) | refine XL_fn (made_ok _ _ _ _) rfl rfl (fun _ _ _ => trivial) ?_) | (refine XG_alloc ?_; (refine XL_alloc tt_ok rfl rfl (fun _ => rfl) (fun b => ?_); refine XL_nB (by repeat' (first | exact .nil | apply NL.cons)) ?_)) | (refine XG_store ?_; first | (refine XL_storeW tt_ok 0 rfl rfl rfl rfl rfl rfl rfl ?_; refine XL_nK 0 rfl (by repeat' (first | exact .nil | apply NL.cons)) ?_) | (refine XL_storeW tt_ok 1 rfl rfl rfl rfl rfl rfl rfl ?_; refine XL_nK 1 rfl (by repeat' (first | exact .nil | apply NL.cons)) ?_)) | (refine XL_op tt_ok rfl rfl ?_; try (refine XL_dec (fun _ => ?_) (fun _ => ?_)))) | (refine X_id ?_; first | refine X_seq ?_ | (refine X_regionN (by repeat' (first | exact .nil | apply NL.cons)) ?_) | refine X_skip ?_ | refine X_ret ?_ | refine X_cond_t rfl ?_ | refine X_cond_f rfl ?_) | (refine Y_id ?_; first | refine Y_then ?_ | refine Y_then_ret ?_))
    all_goals first
      | exact Y_res2 rfl (.cell tt_ok 0 rfl rfl rfl rfl rfl) (.tmp rfl) (fin_nil encRg) (SRes.none (e1 (by assumption)))
      | exact Y_res2 rfl (.cell tt_ok 0 rfl rfl rfl rfl rfl) (.tmp rfl) (fin_nil encRg) (SRes.none (e2 (by omega) (fun h => absurd h.1 (by assumption))))
      | exact Y_res2 rfl (.cell tt_ok 0 rfl rfl rfl rfl rfl) (.tmp rfl) (fin_nil encRg) (SRes.none (e2 (by omega) (fun h => by simp_all)))
      | exact Y_res2 rfl (.cell tt_ok 1 rfl rfl rfl rfl rfl) (.tmp rfl) (stars_fin1 0 rfl) ⟨o, by rw [e3 (by omega) ⟨by assumption, by assumption⟩]; exact ho1, ho2, by rw [e3 (by omega) ⟨by assumption, by assumption⟩]; rfl, rfl⟩
      | skip
    
  · have e4 : madeF (xs, e) h = ([], 0, e) := if_neg he
    rw [e4] at e3
    refine Ctr.intro Try.func32 rfl rfl (by decide +kernel) fun F hpre => ?_
    have r1 : rdS encRg F.heap A m l := hpre
    repeat' (first | (refine XL_id ?_; first | refine XL_nil ?_ | refine XL_guard_yes rfl rfl rfl ?_ | refine XL_guard_no rfl rfl rfl rfl rfl ?_ | (refine XG_load ?_; first | refine XL_loadW tt_ok 1 rfl rfl rfl rfl rfl rfl ?_ | refine XL_load tt_ok 1 rfl rfl rfl rfl rfl rfl ?_ | refine XL_load tt_ok 2 rfl rfl rfl rfl rfl rfl ?_) | (refine XG_box ?_; (refine XL_box rfl (fun _ => rfl) (fun _ => ?_); refine XL_nB (by repeat' (first | exact .nil | apply NL.cons)) ?_)) | (refine XG_build ?_; (refine XL_build tt_ok rfl rfl rfl rfl rfl rfl rfl ?_; refine XL_aggN (by repeat' (first | exact .nil | apply NL.cons)) ?_)) | (refine XG_call ?_; first | refine XL_fn hc rfl rfl (fun g hg _ => r1.le hg) ?_ | (refine XL_fn hw rfl rfl (fun _ _ _ => trivial) ?_; refine XL_dec (fun _ => ?_) (fun _ => ?_)) | (refine XL_fn hp rfl rfl (fun _ _ _ => trivial) ?_; refine XL_bool (fun _ => ?_) (fun _ => ?_)) | (refine XL_callK [] hk rfl rfl (fun _ => rfl) (fun g hg hL => r1.le hg) (fun u L hv => ?_); obtain ⟨o, ho1, ho2, rfl, rfl⟩ := hv) | refine XL_fn (made_bad _ _ _ _ _ he) rfl rfl (fun _ _ _ => trivial) ?_) | (refine XG_alloc ?_; (refine XL_alloc tt_ok rfl rfl (fun _ => rfl) (fun b => ?_); refine XL_nB (by repeat' (first | exact .nil | apply NL.cons)) ?_)) | (refine XG_store ?_; first | (refine XL_storeW tt_ok 0 rfl rfl rfl rfl rfl rfl rfl ?_; refine XL_nK 0 rfl (by repeat' (first | exact .nil | apply NL.cons)) ?_) | (refine XL_storeW tt_ok 1 rfl rfl rfl rfl rfl rfl rfl ?_; refine XL_nK 1 rfl (by repeat' (first | exact .nil | apply NL.cons)) ?_)) | (refine XL_op tt_ok rfl rfl ?_; try (refine XL_dec (fun _ => ?_) (fun _ => ?_)))) | (refine X_id ?_; first | refine X_seq ?_ | (refine X_regionN (by repeat' (first | exact .nil | apply NL.cons)) ?_) | refine X_skip ?_ | refine X_ret ?_ | refine X_cond_t rfl ?_ | refine X_cond_f rfl ?_) | (refine Y_id ?_; first | refine Y_then ?_ | refine Y_then_ret ?_))
    all_goals first
      | exact Y_res2 rfl (.cell tt_ok 0 rfl rfl rfl rfl rfl) (.tmp rfl) (fin_nil encRg) (SRes.none (e1 (by assumption)))
      | exact Y_res2 rfl (.cell tt_ok 0 rfl rfl rfl rfl rfl) (.tmp rfl) (fin_nil encRg) (SRes.none (e2 (by omega) (fun h => absurd h.1 (by assumption))))
      | exact Y_res2 rfl (.cell tt_ok 0 rfl rfl rfl rfl rfl) (.tmp rfl) (fin_nil encRg) (SRes.none (e2 (by omega) (fun h => by simp_all)))
      | exact Y_res2 rfl (.cell tt_ok 1 rfl rfl rfl rfl rfl) (.tmp rfl) (fin_nil encRg) (SRes.none (e3 (by omega) ⟨by assumption, by assumption⟩))
      | skip
    
end Go.Proofs.Ytalkcemelegohaa
set_option linter.unusedVariables false
set_option maxRecDepth 100000
namespace Go.Proofs.Ytalkcemelegohaa
open Go.RowKit Go.Cof
open Vm (Rg encRg rgV checkE prm lastR Fol Good)

theorem with_ok (A : Option Addr) (m c : Nat) (h : Int) : FnC Try.prog 78 [.slice A m c, iV h, iV 0] (fun _ => True) (.tuple #[.agg #[.slice A m c, iV h], iV 0]) := with_spec A m c h 0
theorem with_bad (A : Option Addr) (m c : Nat) (h e : Int) (he : ¬ e = 0) : FnC Try.prog 78 [.slice A m c, iV h, iV e] (fun _ => True) (.tuple #[.agg #[.slice none 0 0, iV 0], iV e]) := by
  have := with_spec A m c h e; rwa [if_neg he] at this
set_option maxHeartbeats 4000000 in
theorem qunmap_spec (A : Option Addr) (m c : Nat) (l : List Rg) (h p n : Int) (hm : m ≤ 9223372036854775807) (hmc : m ≤ c) (hl : ∀ r ∈ l, r.In) (q1 : -9223372036854775808 ≤ p ∧ p ≤ 9223372036854775807) (q2 : -9223372036854775808 ≤ n ∧ n ≤ 9223372036854775807) :
    Ctr Try.prog 46 [.agg #[.slice A m c, iV h], iV p, iV n] (fun g => rdS encRg g A m l) [] (SRes (unmapF l h p n)) := by
  have hc := qcheck_spec A m c l h hm hl
  have hw := qlow_spec p n q2.1 q2.2
  have hk := Vm.rcut_spec A m c l p n hm hl q1
  rw [Vm.cutP_ref] at hk
  have e1 : ¬ scheck l h = 0 → unmapF l h p n = ([], 0, scheck l h) := fun h1 => by unfold unmapF; rw [if_pos h1]
  have e2 : scheck l h = 0 → ¬ lowP p n → unmapF l h p n = ([], 0, 2) := fun h1 h2 => by unfold unmapF; rw [if_neg (by omega), if_pos h2]
  have e3 : scheck l h = 0 → lowP p n → unmapF l h p n = madeF (Vm.cutP l p n) h := fun h1 h2 => by unfold unmapF; rw [if_neg (by omega), if_neg (fun h => h h2)]
  obtain ⟨⟨xs, e⟩, hX⟩ : ∃ X, Vm.cutP l p n = X := ⟨_, rfl⟩
  rw [hX] at hk e3
  by_cases he : e = 0
  · subst he
    refine Ctr.intro Try.func46 rfl rfl (by decide +kernel) fun F hpre => ?_
    have r1 : rdS encRg F.heap A m l := hpre
    repeat' (first | (refine XL_id ?_; first | refine XL_nil ?_ | (refine XG_load ?_; first | refine XL_loadW tt_ok 1 rfl rfl rfl rfl rfl rfl ?_ | refine XL_load tt_ok 1 rfl rfl rfl rfl rfl rfl ?_ | refine XL_load tt_ok 2 rfl rfl rfl rfl rfl rfl ?_) | (refine XG_box ?_; (refine XL_box rfl (fun _ => rfl) (fun _ => ?_); refine XL_nB (by repeat' (first | exact .nil | apply NL.cons)) ?_)) | (refine XG_build ?_; (refine XL_build tt_ok rfl rfl rfl rfl rfl rfl rfl ?_; refine XL_aggN (by repeat' (first | exact .nil | apply NL.cons)) ?_)) | (refine XG_call ?_; first | refine XL_fn hc rfl rfl (fun g hg _ => r1.le hg) ?_ | (refine XL_fn hw rfl rfl (fun _ _ _ => trivial) ?_; refine XL_dec (fun _ => ?_) (fun _ => ?_)) | (refine XL_callK [] hk rfl rfl (fun _ => rfl) (fun g hg hL => r1.le hg) (fun u L hv => ?_); obtain ⟨o, ho1, ho2, rfl, rfl⟩ := hv) | refine XL_fn (with_ok _ _ _ _) rfl rfl (fun _ _ _ => trivial) ?_) | (refine XG_alloc ?_; (refine XL_alloc tt_ok rfl rfl (fun _ => rfl) (fun b => ?_); refine XL_nB (by repeat' (first | exact .nil | apply NL.cons)) ?_)) | (refine XG_store ?_; first | (refine XL_storeW tt_ok 0 rfl rfl rfl rfl rfl rfl rfl ?_; refine XL_nK 0 rfl (by repeat' (first | exact .nil | apply NL.cons)) ?_) | (refine XL_storeW tt_ok 1 rfl rfl rfl rfl rfl rfl rfl ?_; refine XL_nK 1 rfl (by repeat' (first | exact .nil | apply NL.cons)) ?_)) | (refine XL_op tt_ok rfl rfl ?_; try (refine XL_dec (fun _ => ?_) (fun _ => ?_)))) | (refine X_id ?_; first | refine X_seq ?_ | (refine X_regionN (by repeat' (first | exact .nil | apply NL.cons)) ?_) | refine X_skip ?_ | refine X_ret ?_ | refine X_cond_t rfl ?_ | refine X_cond_f rfl ?_) | (refine Y_id ?_; first | refine Y_then ?_ | refine Y_then_ret ?_))
    all_goals first
      | exact Y_res2 rfl (.cell tt_ok 0 rfl rfl rfl rfl rfl) (.tmp rfl) (fin_nil encRg) (SRes.none (e1 (by assumption)))
      | exact Y_res2 rfl (.cell tt_ok 0 rfl rfl rfl rfl rfl) (.tmp rfl) (fin_nil encRg) (SRes.none (e2 (by omega) (by assumption)))
      | exact Y_res2 rfl (.cell tt_ok 1 rfl rfl rfl rfl rfl) (.tmp rfl) (stars_fin1 0 rfl) ⟨o, by rw [e3 (by omega) (by assumption)]; exact ho1, ho2, by rw [e3 (by omega) (by assumption)]; rfl, rfl⟩
      | skip
    
  · have e4 : madeF (xs, e) h = ([], 0, e) := if_neg he
    rw [e4] at e3
    refine Ctr.intro Try.func46 rfl rfl (by decide +kernel) fun F hpre => ?_
    have r1 : rdS encRg F.heap A m l := hpre
    repeat' (first | (refine XL_id ?_; first | refine XL_nil ?_ | (refine XG_load ?_; first | refine XL_loadW tt_ok 1 rfl rfl rfl rfl rfl rfl ?_ | refine XL_load tt_ok 1 rfl rfl rfl rfl rfl rfl ?_ | refine XL_load tt_ok 2 rfl rfl rfl rfl rfl rfl ?_) | (refine XG_box ?_; (refine XL_box rfl (fun _ => rfl) (fun _ => ?_); refine XL_nB (by repeat' (first | exact .nil | apply NL.cons)) ?_)) | (refine XG_build ?_; (refine XL_build tt_ok rfl rfl rfl rfl rfl rfl rfl ?_; refine XL_aggN (by repeat' (first | exact .nil | apply NL.cons)) ?_)) | (refine XG_call ?_; first | refine XL_fn hc rfl rfl (fun g hg _ => r1.le hg) ?_ | (refine XL_fn hw rfl rfl (fun _ _ _ => trivial) ?_; refine XL_dec (fun _ => ?_) (fun _ => ?_)) | (refine XL_callK [] hk rfl rfl (fun _ => rfl) (fun g hg hL => r1.le hg) (fun u L hv => ?_); obtain ⟨o, ho1, ho2, rfl, rfl⟩ := hv) | refine XL_fn (with_bad _ _ _ _ _ he) rfl rfl (fun _ _ _ => trivial) ?_) | (refine XG_alloc ?_; (refine XL_alloc tt_ok rfl rfl (fun _ => rfl) (fun b => ?_); refine XL_nB (by repeat' (first | exact .nil | apply NL.cons)) ?_)) | (refine XG_store ?_; first | (refine XL_storeW tt_ok 0 rfl rfl rfl rfl rfl rfl rfl ?_; refine XL_nK 0 rfl (by repeat' (first | exact .nil | apply NL.cons)) ?_) | (refine XL_storeW tt_ok 1 rfl rfl rfl rfl rfl rfl rfl ?_; refine XL_nK 1 rfl (by repeat' (first | exact .nil | apply NL.cons)) ?_)) | (refine XL_op tt_ok rfl rfl ?_; try (refine XL_dec (fun _ => ?_) (fun _ => ?_)))) | (refine X_id ?_; first | refine X_seq ?_ | (refine X_regionN (by repeat' (first | exact .nil | apply NL.cons)) ?_) | refine X_skip ?_ | refine X_ret ?_ | refine X_cond_t rfl ?_ | refine X_cond_f rfl ?_) | (refine Y_id ?_; first | refine Y_then ?_ | refine Y_then_ret ?_))
    all_goals first
      | exact Y_res2 rfl (.cell tt_ok 0 rfl rfl rfl rfl rfl) (.tmp rfl) (fin_nil encRg) (SRes.none (e1 (by assumption)))
      | exact Y_res2 rfl (.cell tt_ok 0 rfl rfl rfl rfl rfl) (.tmp rfl) (fin_nil encRg) (SRes.none (e2 (by omega) (by assumption)))
      | exact Y_res2 rfl (.cell tt_ok 1 rfl rfl rfl rfl rfl) (.tmp rfl) (fin_nil encRg) (SRes.none (e3 (by omega) (by assumption)))
      | skip
    
end Go.Proofs.Ytalkcemelegohaa
set_option linter.unusedVariables false
set_option maxRecDepth 100000
namespace Go.Proofs.Ytalkcemelegohaa
open Go.RowKit Go.Cof
open Vm (Rg encRg rgV checkE prm lastR Fol Good)

set_option maxHeartbeats 4000000 in
theorem qprotect_spec (A : Option Addr) (m c : Nat) (l : List Rg) (h p n q : Int) (hm : m ≤ 9223372036854775807) (hmc : m ≤ c) (hl : ∀ r ∈ l, r.In) (q1 : -9223372036854775808 ≤ p ∧ p ≤ 9223372036854775807) (q2 : -9223372036854775808 ≤ n ∧ n ≤ 9223372036854775807) :
    Ctr Try.prog 47 [.agg #[.slice A m c, iV h], iV p, iV n, bV q] (fun g => rdS encRg g A m l) [] (SRes (protectF l h p n q)) := by
  have hc := qcheck_spec A m c l h hm hl
  have hw := qlow_spec p n q2.1 q2.2
  have hp := qperm_spec q
  have hk := Vm.rprot_spec A m c l p n q hm hl q1
  rw [Vm.protP_ref] at hk
  have e1 : ¬ scheck l h = 0 → protectF l h p n q = ([], 0, scheck l h) := fun h1 => by unfold protectF; rw [if_pos h1]
  have e2 : scheck l h = 0 → ¬ (lowP p n ∧ prm q = true) → protectF l h p n q = ([], 0, 2) := fun h1 h2 => by unfold protectF; rw [if_neg (by omega), if_pos h2]
  have e3 : scheck l h = 0 → lowP p n ∧ prm q = true → protectF l h p n q = madeF (Vm.protP l p n q) h := fun h1 h2 => by unfold protectF; rw [if_neg (by omega), if_neg (fun h => h h2)]
  obtain ⟨⟨xs, e⟩, hX⟩ : ∃ X, Vm.protP l p n q = X := ⟨_, rfl⟩
  rw [hX] at hk e3
  by_cases he : e = 0
  · subst he
    refine Ctr.intro Try.func47 rfl rfl (by decide +kernel) fun F hpre => ?_
    have r1 : rdS encRg F.heap A m l := hpre
    repeat' (first | (refine XL_id ?_; first | refine XL_nil ?_ | refine XL_guard_yes rfl rfl rfl ?_ | refine XL_guard_no rfl rfl rfl rfl rfl ?_ | (refine XG_load ?_; first | refine XL_loadW tt_ok 1 rfl rfl rfl rfl rfl rfl ?_ | refine XL_load tt_ok 1 rfl rfl rfl rfl rfl rfl ?_ | refine XL_load tt_ok 2 rfl rfl rfl rfl rfl rfl ?_) | (refine XG_box ?_; (refine XL_box rfl (fun _ => rfl) (fun _ => ?_); refine XL_nB (by repeat' (first | exact .nil | apply NL.cons)) ?_)) | (refine XG_build ?_; (refine XL_build tt_ok rfl rfl rfl rfl rfl rfl rfl ?_; refine XL_aggN (by repeat' (first | exact .nil | apply NL.cons)) ?_)) | (refine XG_call ?_; first | refine XL_fn hc rfl rfl (fun g hg _ => r1.le hg) ?_ | (refine XL_fn hw rfl rfl (fun _ _ _ => trivial) ?_; refine XL_dec (fun _ => ?_) (fun _ => ?_)) | (refine XL_fn hp rfl rfl (fun _ _ _ => trivial) ?_; refine XL_bool (fun _ => ?_) (fun _ => ?_)) | (refine XL_callK [] hk rfl rfl (fun _ => rfl) (fun g hg hL => r1.le hg) (fun u L hv => ?_); obtain ⟨o, ho1, ho2, rfl, rfl⟩ := hv) | refine XL_fn (with_ok _ _ _ _) rfl rfl (fun _ _ _ => trivial) ?_) | (refine XG_alloc ?_; (refine XL_alloc tt_ok rfl rfl (fun _ => rfl) (fun b => ?_); refine XL_nB (by repeat' (first | exact .nil | apply NL.cons)) ?_)) | (refine XG_store ?_; first | (refine XL_storeW tt_ok 0 rfl rfl rfl rfl rfl rfl rfl ?_; refine XL_nK 0 rfl (by repeat' (first | exact .nil | apply NL.cons)) ?_) | (refine XL_storeW tt_ok 1 rfl rfl rfl rfl rfl rfl rfl ?_; refine XL_nK 1 rfl (by repeat' (first | exact .nil | apply NL.cons)) ?_)) | (refine XL_op tt_ok rfl rfl ?_; try (refine XL_dec (fun _ => ?_) (fun _ => ?_)))) | (refine X_id ?_; first | refine X_seq ?_ | (refine X_regionN (by repeat' (first | exact .nil | apply NL.cons)) ?_) | refine X_skip ?_ | refine X_ret ?_ | refine X_cond_t rfl ?_ | refine X_cond_f rfl ?_) | (refine Y_id ?_; first | refine Y_then ?_ | refine Y_then_ret ?_))
    all_goals first
      | exact Y_res2 rfl (.cell tt_ok 0 rfl rfl rfl rfl rfl) (.tmp rfl) (fin_nil encRg) (SRes.none (e1 (by assumption)))
      | exact Y_res2 rfl (.cell tt_ok 0 rfl rfl rfl rfl rfl) (.tmp rfl) (fin_nil encRg) (SRes.none (e2 (by omega) (fun h => absurd h.1 (by assumption))))
      | exact Y_res2 rfl (.cell tt_ok 0 rfl rfl rfl rfl rfl) (.tmp rfl) (fin_nil encRg) (SRes.none (e2 (by omega) (fun h => by simp_all)))
      | exact Y_res2 rfl (.cell tt_ok 1 rfl rfl rfl rfl rfl) (.tmp rfl) (stars_fin1 0 rfl) ⟨o, by rw [e3 (by omega) ⟨by assumption, by assumption⟩]; exact ho1, ho2, by rw [e3 (by omega) ⟨by assumption, by assumption⟩]; rfl, rfl⟩
      | skip
    
  · have e4 : madeF (xs, e) h = ([], 0, e) := if_neg he
    rw [e4] at e3
    refine Ctr.intro Try.func47 rfl rfl (by decide +kernel) fun F hpre => ?_
    have r1 : rdS encRg F.heap A m l := hpre
    repeat' (first | (refine XL_id ?_; first | refine XL_nil ?_ | refine XL_guard_yes rfl rfl rfl ?_ | refine XL_guard_no rfl rfl rfl rfl rfl ?_ | (refine XG_load ?_; first | refine XL_loadW tt_ok 1 rfl rfl rfl rfl rfl rfl ?_ | refine XL_load tt_ok 1 rfl rfl rfl rfl rfl rfl ?_ | refine XL_load tt_ok 2 rfl rfl rfl rfl rfl rfl ?_) | (refine XG_box ?_; (refine XL_box rfl (fun _ => rfl) (fun _ => ?_); refine XL_nB (by repeat' (first | exact .nil | apply NL.cons)) ?_)) | (refine XG_build ?_; (refine XL_build tt_ok rfl rfl rfl rfl rfl rfl rfl ?_; refine XL_aggN (by repeat' (first | exact .nil | apply NL.cons)) ?_)) | (refine XG_call ?_; first | refine XL_fn hc rfl rfl (fun g hg _ => r1.le hg) ?_ | (refine XL_fn hw rfl rfl (fun _ _ _ => trivial) ?_; refine XL_dec (fun _ => ?_) (fun _ => ?_)) | (refine XL_fn hp rfl rfl (fun _ _ _ => trivial) ?_; refine XL_bool (fun _ => ?_) (fun _ => ?_)) | (refine XL_callK [] hk rfl rfl (fun _ => rfl) (fun g hg hL => r1.le hg) (fun u L hv => ?_); obtain ⟨o, ho1, ho2, rfl, rfl⟩ := hv) | refine XL_fn (with_bad _ _ _ _ _ he) rfl rfl (fun _ _ _ => trivial) ?_) | (refine XG_alloc ?_; (refine XL_alloc tt_ok rfl rfl (fun _ => rfl) (fun b => ?_); refine XL_nB (by repeat' (first | exact .nil | apply NL.cons)) ?_)) | (refine XG_store ?_; first | (refine XL_storeW tt_ok 0 rfl rfl rfl rfl rfl rfl rfl ?_; refine XL_nK 0 rfl (by repeat' (first | exact .nil | apply NL.cons)) ?_) | (refine XL_storeW tt_ok 1 rfl rfl rfl rfl rfl rfl rfl ?_; refine XL_nK 1 rfl (by repeat' (first | exact .nil | apply NL.cons)) ?_)) | (refine XL_op tt_ok rfl rfl ?_; try (refine XL_dec (fun _ => ?_) (fun _ => ?_)))) | (refine X_id ?_; first | refine X_seq ?_ | (refine X_regionN (by repeat' (first | exact .nil | apply NL.cons)) ?_) | refine X_skip ?_ | refine X_ret ?_ | refine X_cond_t rfl ?_ | refine X_cond_f rfl ?_) | (refine Y_id ?_; first | refine Y_then ?_ | refine Y_then_ret ?_))
    all_goals first
      | exact Y_res2 rfl (.cell tt_ok 0 rfl rfl rfl rfl rfl) (.tmp rfl) (fin_nil encRg) (SRes.none (e1 (by assumption)))
      | exact Y_res2 rfl (.cell tt_ok 0 rfl rfl rfl rfl rfl) (.tmp rfl) (fin_nil encRg) (SRes.none (e2 (by omega) (fun h => absurd h.1 (by assumption))))
      | exact Y_res2 rfl (.cell tt_ok 0 rfl rfl rfl rfl rfl) (.tmp rfl) (fin_nil encRg) (SRes.none (e2 (by omega) (fun h => by simp_all)))
      | exact Y_res2 rfl (.cell tt_ok 1 rfl rfl rfl rfl rfl) (.tmp rfl) (fin_nil encRg) (SRes.none (e3 (by omega) ⟨by assumption, by assumption⟩))
      | skip
    
end Go.Proofs.Ytalkcemelegohaa
