/- Address spaces: Map at a page. Address spaces: Map where there is room. -/
import Derived.Test.YtalkcemelegohaaSB
import Derived.Test.YtalkcemelegohaaVmB
import Derived.Test.YtalkcemelegohaaVmLn
set_option linter.unusedVariables false
set_option maxRecDepth 100000
namespace Go.Proofs.Ytalkcemelegohaa
open Go.RowKit Go.Cof
open Vm (Rg encRg rgV checkE prm lastR Fol Good)

/-- An answer: a space of one's own, where it lies, what is wrong. -/
def MRes (x : List Rg × Int × Int × Int) (v : Value) (L : List HProp) : Prop := ∃ o : Ow Rg, o.xs = x.1 ∧ o.m = o.xs.length ∧ v = .tuple #[.agg #[o.v, iV x.2.1], iV x.2.2.1, iV x.2.2.2] ∧ L = [o.own encRg]
theorem MRes.none {x : List Rg × Int × Int × Int} {e : Int} (h : x = ([], 0, 0, e)) : MRes x (.tuple #[.agg #[.slice .none 0 0, iV 0], iV 0, iV e]) [(⟨.none, 0, 0, []⟩ : Ow Rg).own encRg] := by
  subst h; exact ⟨⟨.none, 0, 0, []⟩, rfl, rfl, rfl, rfl⟩
def mapM (x : List Rg × Int) (h p : Int) : List Rg × Int × Int × Int := if x.2 = 0 then (x.1, h, p, 0) else ([], 0, 0, x.2)
def mapF (l : List Rg) (h p n q : Int) : List Rg × Int × Int × Int :=
  if scheck l h ≠ 0 then ([], 0, 0, scheck l h) else if ¬ ((1 ≤ n ∧ n ≤ 64) ∧ (p = 0 ∨ lowP p n) ∧ prm q = true) then ([], 0, 0, 2) else
  if p = 0 then (if (Vm.gapP l n 1 524288).2.1 = true ∧ (Vm.gapP l n 1 524288).2.2 = 0 then mapM (Vm.putP l ⟨(Vm.gapP l n 1 524288).1, n, q⟩) h (Vm.gapP l n 1 524288).1 else ([], 0, 0, 171))
  else mapM (Vm.putP l ⟨p, n, q⟩) h p
set_option maxHeartbeats 4000000 in
theorem map_at (A : Option Addr) (m c : Nat) (l : List Rg) (h p n q : Int) (hm : m ≤ 9223372036854775807) (hmc : m ≤ c) (hl : ∀ r ∈ l, r.In) (q1 : -9223372036854775808 ≤ p ∧ p ≤ 9223372036854775807) (q2 : -9223372036854775808 ≤ n ∧ n ≤ 9223372036854775807) (q3 : 0 ≤ q ∧ q < 256) (hp0 : ¬ p = 0) :
    Ctr Try.prog 10 [.agg #[.slice A m c, iV h], iV p, iV n, bV q] (fun g => rdS encRg g A m l) [] (MRes (mapF l h p n q)) := by
  have hc := scheck_spec A m c l h hm hl
  have hw := low_spec p n q2.1 q2.2
  have hp := perms_spec q
  have hk := Vm.put_spec A m c l ⟨p, n, q⟩ hm hmc hl ⟨q1, q2, q3⟩
  have e1 : ¬ scheck l h = 0 → mapF l h p n q = ([], 0, 0, scheck l h) := fun h1 => by unfold mapF; rw [if_pos h1]
  have e2 : scheck l h = 0 → ¬ ((1 ≤ n ∧ n ≤ 64) ∧ (p = 0 ∨ lowP p n) ∧ prm q = true) → mapF l h p n q = ([], 0, 0, 2) := fun h1 h2 => by unfold mapF; rw [if_neg (by omega), if_pos h2]
  have e3 : scheck l h = 0 → ((1 ≤ n ∧ n ≤ 64) ∧ (p = 0 ∨ lowP p n) ∧ prm q = true) → mapF l h p n q = mapM (Vm.putP l ⟨p, n, q⟩) h p := fun h1 h2 => by unfold mapF; rw [if_neg (by omega), if_neg (fun h => h h2), if_neg hp0]
  obtain ⟨⟨xs, e⟩, hX⟩ : ∃ X, Vm.putP l ⟨p, n, q⟩ = X := ⟨_, rfl⟩
  rw [hX] at hk e3
  have f1 : e = 0 → mapM (xs, e) h p = (xs, h, p, 0) := fun h1 => if_pos h1
  have f2 : ¬ e = 0 → mapM (xs, e) h p = ([], 0, 0, e) := fun h1 => if_neg h1
  refine Ctr.intro Try.func10 rfl rfl (by decide +kernel) fun F hpre => ?_
  have r1 : rdS encRg F.heap A m l := hpre
  repeat' (first | (refine XL_id ?_; first | refine XL_nil ?_ | refine XL_guard_yes rfl rfl rfl ?_ | refine XL_guard_no rfl rfl rfl rfl rfl ?_ | refine XL_guard_nou rfl rfl rfl rfl ?_ | (refine XG_load ?_; first | refine XL_loadW tt_ok 1 rfl rfl rfl rfl rfl rfl ?_ | refine XL_load tt_ok 1 rfl rfl rfl rfl rfl rfl ?_ | refine XL_load tt_ok 2 rfl rfl rfl rfl rfl rfl ?_) | (refine XG_box ?_; (refine XL_box rfl (fun _ => rfl) (fun _ => ?_); refine XL_nB (by repeat' (first | exact .nil | apply NL.cons)) ?_)) | (refine XG_build ?_; (refine XL_build tt_ok rfl rfl rfl rfl rfl rfl rfl ?_; refine XL_aggN (by repeat' (first | exact .nil | apply NL.cons)) ?_)) | (refine XG_call ?_; first | refine XL_fn hc rfl rfl (fun g hg _ => r1.le hg) ?_ | (refine XL_fn hw rfl rfl (fun _ _ _ => trivial) ?_; refine XL_dec (fun _ => ?_) (fun _ => ?_)) | (refine XL_fn hp rfl rfl (fun _ _ _ => trivial) ?_; refine XL_bool (fun _ => ?_) (fun _ => ?_)) | (refine XL_callK [] hk rfl rfl (fun _ => rfl) (fun g hg hL => r1.le hg) (fun u L hv => ?_); obtain ⟨o, ho1, ho2, rfl, rfl⟩ := hv)) | (refine XG_alloc ?_; (refine XL_alloc tt_ok rfl rfl (fun _ => rfl) (fun b => ?_); refine XL_nB (by repeat' (first | exact .nil | apply NL.cons)) ?_)) | (refine XG_store ?_; first | (refine XL_storeW tt_ok 0 rfl rfl rfl rfl rfl rfl rfl ?_; refine XL_nK 0 rfl (by repeat' (first | exact .nil | apply NL.cons)) ?_) | (refine XL_storeW tt_ok 1 rfl rfl rfl rfl rfl rfl rfl ?_; refine XL_nK 1 rfl (by repeat' (first | exact .nil | apply NL.cons)) ?_)) | (refine XL_op tt_ok rfl rfl ?_; try (first | refine XL_dec_t (by omega) ?_ | refine XL_dec_f (by omega) ?_ | refine XL_dec (fun _ => ?_) (fun _ => ?_)))) | (refine X_id ?_; first | refine X_seq ?_ | (refine X_regionN (by repeat' (first | exact .nil | apply NL.cons)) ?_) | refine X_skip ?_ | refine X_ret ?_ | refine X_cond_t rfl ?_ | refine X_cond_f rfl ?_) | (refine Y_id ?_; first | refine Y_then ?_ | refine Y_then_ret ?_))
  all_goals first
    | exact Y_res3 rfl (.cell tt_ok 0 rfl rfl rfl rfl rfl) (.tmp rfl) (.tmp rfl) (fin_nil encRg) (MRes.none (e1 (by assumption)))
    | exact Y_res3 rfl (.cell tt_ok 0 rfl rfl rfl rfl rfl) (.tmp rfl) (.tmp rfl) (fin_nil encRg) (MRes.none (e2 (by omega) (fun h => by first | omega | simp_all)))
    | exact Y_res3 rfl (.cell tt_ok 1 rfl rfl rfl rfl rfl) (.tmp rfl) (.tmp rfl) (fin_nil encRg) (MRes.none ((e3 (by omega) ⟨by omega, .inr (by assumption), by assumption⟩).trans (f2 (by assumption))))
    | exact Y_res3 rfl (.cell tt_ok 1 rfl rfl rfl rfl rfl) (.tmp rfl) (.tmp rfl) (stars_fin1 0 rfl) ⟨o, by rw [e3 (by omega) ⟨by omega, .inr (by assumption), by assumption⟩, f1 (by omega)]; exact ho1, ho2, by rw [e3 (by omega) ⟨by omega, .inr (by assumption), by assumption⟩, f1 (by omega)]; rfl, rfl⟩
    | (exfalso; omega)
    | skip
  
end Go.Proofs.Ytalkcemelegohaa
set_option linter.unusedVariables false
set_option maxRecDepth 100000
namespace Go.Proofs.Ytalkcemelegohaa
open Go.RowKit Go.Cof
open Vm (Rg encRg rgV checkE prm lastR Fol Good)

theorem gapP_rng (l : List Rg) (n f to : Int) : 0 ≤ (Vm.gapP l n f to).1 ∧ (Vm.gapP l n f to).1 ≤ 1048576 := by
  unfold Vm.gapP
  by_cases hc : checkE l = 0
  · rw [if_neg (by omega)]
    by_cases hp : n < 1 ∨ n > 1048576 ∨ f < 0 ∨ to > 1048576 ∨ f > to
    · rw [if_pos hp]; exact ⟨by show (0 : Int) ≤ 0; omega, by show (0 : Int) ≤ _; omega⟩
    · rw [if_neg hp]
      obtain ⟨g1, g2, g3, g4⟩ := Vm.gap_from (Good.of_check hc) (n := n) (f := f) (by omega)
      generalize Vm.gapL n (l.drop (Vm.firstN l f)) f = g at g1 g2 g3 g4
      by_cases hg : g > to - n
      · rw [if_pos hg]; exact ⟨by show (0 : Int) ≤ 0; omega, by show (0 : Int) ≤ _; omega⟩
      · rw [if_neg hg]; exact ⟨by show 0 ≤ g; omega, by show g ≤ _; omega⟩
  · rw [if_pos hc]; exact ⟨by show (0 : Int) ≤ 0; omega, by show (0 : Int) ≤ _; omega⟩
theorem mapF_1 {l : List Rg} {h p n q : Int} (h1 : ¬ scheck l h = 0) : mapF l h p n q = ([], 0, 0, scheck l h) := by unfold mapF; rw [if_pos h1]
theorem mapF_2 {l : List Rg} {h p n q : Int} (h1 : scheck l h = 0) (h2 : ¬ ((1 ≤ n ∧ n ≤ 64) ∧ (p = 0 ∨ lowP p n) ∧ prm q = true)) : mapF l h p n q = ([], 0, 0, 2) := by unfold mapF; rw [if_neg (by omega), if_pos h2]
theorem mapF_3 {l : List Rg} {h p n q : Int} (h1 : scheck l h = 0) (h2 : ((1 ≤ n ∧ n ≤ 64) ∧ (p = 0 ∨ lowP p n) ∧ prm q = true)) (hp : ¬ p = 0) : mapF l h p n q = mapM (Vm.putP l ⟨p, n, q⟩) h p := by unfold mapF; rw [if_neg (by omega), if_neg (fun h => h h2), if_neg hp]
theorem mapF_4 {l : List Rg} {h n q at_ ge : Int} {ok_ : Bool} (h1 : scheck l h = 0) (h2 : (1 ≤ n ∧ n ≤ 64) ∧ prm q = true) (hX : Vm.gapP l n 1 524288 = (at_, ok_, ge)) (h3 : ¬ (ok_ = true ∧ ge = 0)) : mapF l h 0 n q = ([], 0, 0, 171) := by
  unfold mapF; rw [if_neg (by omega), if_neg (fun h => h ⟨h2.1, .inl rfl, h2.2⟩), if_pos rfl, hX, if_neg h3]
theorem mapF_5 {l : List Rg} {h n q at_ ge : Int} {ok_ : Bool} (h1 : scheck l h = 0) (h2 : (1 ≤ n ∧ n ≤ 64) ∧ prm q = true) (hX : Vm.gapP l n 1 524288 = (at_, ok_, ge)) (h3 : ok_ = true ∧ ge = 0) : mapF l h 0 n q = mapM (Vm.putP l ⟨at_, n, q⟩) h at_ := by
  unfold mapF; rw [if_neg (by omega), if_neg (fun h => h ⟨h2.1, .inl rfl, h2.2⟩), if_pos rfl, hX, if_pos h3]
set_option maxHeartbeats 8000000 in
theorem map_gap (A : Option Addr) (m c : Nat) (l : List Rg) (h n q : Int) (hm : m ≤ 9223372036854775807) (hmc : m ≤ c) (hl : ∀ r ∈ l, r.In) (q2 : -9223372036854775808 ≤ n ∧ n ≤ 9223372036854775807) (q3 : 0 ≤ q ∧ q < 256) :
    Ctr Try.prog 10 [.agg #[.slice A m c, iV h], iV 0, iV n, bV q] (fun g => rdS encRg g A m l) [] (MRes (mapF l h 0 n q)) := by
  have hc := scheck_spec A m c l h hm hl
  have hw := low_spec 0 n q2.1 q2.2
  have hp := perms_spec q
  have hgp := Vm.gap_spec A m c l n 1 524288 hm hmc hl (by omega) (by omega) q2
  have hat := gapP_rng l n 1 524288
  obtain ⟨⟨at_, ok_, ge⟩, hX⟩ : ∃ X, Vm.gapP l n 1 524288 = X := ⟨_, rfl⟩
  rw [hX] at hgp hat
  have hgp : FnC Try.prog 36 [.slice A m c, iV n, iV 1, iV 524288] (fun g => rdS encRg g A m l) (.tuple #[iV at_, .bool ok_, iV ge]) := hgp
  have hat : 0 ≤ at_ ∧ at_ ≤ 1048576 := hat
  have hk := Vm.put_spec A m c l ⟨at_, n, q⟩ hm hmc hl ⟨by show -9223372036854775808 ≤ at_ ∧ at_ ≤ 9223372036854775807; omega, q2, q3⟩
  have e3 := fun h1 h2 h3 => mapF_5 (l := l) (h := h) (q := q) h1 h2 hX h3
  obtain ⟨⟨xs, e⟩, hX2⟩ : ∃ X, Vm.putP l ⟨at_, n, q⟩ = X := ⟨_, rfl⟩
  rw [hX2] at hk e3
  have f1 : e = 0 → mapM (xs, e) h at_ = (xs, h, at_, 0) := fun h1 => if_pos h1
  have f2 : ¬ e = 0 → mapM (xs, e) h at_ = ([], 0, 0, e) := fun h1 => if_neg h1
  cases ok_
  · have e4 := fun h1 h2 => mapF_4 (l := l) (h := h) (q := q) h1 h2 hX (fun h => Bool.noConfusion h.1)
    refine Ctr.intro Try.func10 rfl rfl (by decide +kernel) fun F hpre => ?_
    have r1 : rdS encRg F.heap A m l := hpre
    repeat' (first | (refine XL_id ?_; first | refine XL_nil ?_ | refine XL_guard_yes rfl rfl rfl ?_ | refine XL_guard_no rfl rfl rfl rfl rfl ?_ | refine XL_guard_nou rfl rfl rfl rfl ?_ | (refine XG_load ?_; first | refine XL_loadW tt_ok 1 rfl rfl rfl rfl rfl rfl ?_ | refine XL_load tt_ok 1 rfl rfl rfl rfl rfl rfl ?_) | (refine XG_box ?_; (refine XL_box rfl (fun _ => rfl) (fun _ => ?_); refine XL_nB (by repeat' (first | exact .nil | apply NL.cons)) ?_)) | (refine XG_build ?_; (refine XL_build tt_ok rfl rfl rfl rfl rfl rfl rfl ?_; refine XL_aggN (by repeat' (first | exact .nil | apply NL.cons)) ?_)) | (refine XG_call ?_; first | refine XL_fn hc rfl rfl (fun g hg _ => r1.le hg) ?_ | (refine XL_fn hp rfl rfl (fun _ _ _ => trivial) ?_; refine XL_bool (fun _ => ?_) (fun _ => ?_)) | refine XL_fn hgp rfl rfl (fun g hg _ => r1.le hg) ?_) | (refine XG_alloc ?_; (refine XL_alloc tt_ok rfl rfl (fun _ => rfl) (fun b => ?_); refine XL_nB (by repeat' (first | exact .nil | apply NL.cons)) ?_)) | (refine XG_store ?_; (refine XL_storeW tt_ok 0 rfl rfl rfl rfl rfl rfl rfl ?_; refine XL_nK 0 rfl (by repeat' (first | exact .nil | apply NL.cons)) ?_)) | (refine XL_op tt_ok rfl rfl ?_; try (first | refine XL_dec_t (by omega) ?_ | refine XL_dec_f (by omega) ?_ | refine XL_dec (fun _ => ?_) (fun _ => ?_)))) | (refine X_id ?_; first | refine X_seq ?_ | (refine X_regionN (by repeat' (first | exact .nil | apply NL.cons)) ?_) | refine X_skip ?_ | refine X_ret ?_ | refine X_cond_t rfl ?_ | refine X_cond_f rfl ?_) | (refine Y_id ?_; first | refine Y_then ?_ | refine Y_then_ret ?_))
    all_goals first
      | exact Y_res3 rfl (.cell tt_ok 0 rfl rfl rfl rfl rfl) (.tmp rfl) (.tmp rfl) (fin_nil encRg) (MRes.none (mapF_1 (by assumption)))
      | exact Y_res3 rfl (.cell tt_ok 0 rfl rfl rfl rfl rfl) (.tmp rfl) (.tmp rfl) (fin_nil encRg) (MRes.none (mapF_2 (by omega) (fun h => by first | omega | simp_all)))
      | exact Y_res3 rfl (.cell tt_ok 0 rfl rfl rfl rfl rfl) (.tmp rfl) (.tmp rfl) (fin_nil encRg) (MRes.none (e4 (by omega) ⟨by omega, by assumption⟩))
      | (exfalso; omega)
      | skip
    
  · have e4 := fun h1 h2 (h3 : ¬ ge = 0) => mapF_4 (l := l) (h := h) (q := q) h1 h2 hX (fun h => h3 h.2)
    refine Ctr.intro Try.func10 rfl rfl (by decide +kernel) fun F hpre => ?_
    have r1 : rdS encRg F.heap A m l := hpre
    repeat' (first | (refine XL_id ?_; first | refine XL_nil ?_ | refine XL_guard_yes rfl rfl rfl ?_ | refine XL_guard_no rfl rfl rfl rfl rfl ?_ | refine XL_guard_nou rfl rfl rfl rfl ?_ | (refine XG_load ?_; first | refine XL_loadW tt_ok 1 rfl rfl rfl rfl rfl rfl ?_ | refine XL_load tt_ok 1 rfl rfl rfl rfl rfl rfl ?_ | refine XL_load tt_ok 2 rfl rfl rfl rfl rfl rfl ?_) | (refine XG_box ?_; (refine XL_box rfl (fun _ => rfl) (fun _ => ?_); refine XL_nB (by repeat' (first | exact .nil | apply NL.cons)) ?_)) | (refine XG_build ?_; (refine XL_build tt_ok rfl rfl rfl rfl rfl rfl rfl ?_; refine XL_aggN (by repeat' (first | exact .nil | apply NL.cons)) ?_)) | (refine XG_call ?_; first | refine XL_fn hc rfl rfl (fun g hg _ => r1.le hg) ?_ | (refine XL_fn hp rfl rfl (fun _ _ _ => trivial) ?_; refine XL_bool (fun _ => ?_) (fun _ => ?_)) | refine XL_fn hgp rfl rfl (fun g hg _ => r1.le hg) ?_ | (refine XL_callK [] hk rfl rfl (fun _ => rfl) (fun g hg hL => r1.le hg) (fun u L hv => ?_); obtain ⟨o, ho1, ho2, rfl, rfl⟩ := hv)) | (refine XG_alloc ?_; (refine XL_alloc tt_ok rfl rfl (fun _ => rfl) (fun b => ?_); refine XL_nB (by repeat' (first | exact .nil | apply NL.cons)) ?_)) | (refine XG_store ?_; first | (refine XL_storeW tt_ok 0 rfl rfl rfl rfl rfl rfl rfl ?_; refine XL_nK 0 rfl (by repeat' (first | exact .nil | apply NL.cons)) ?_) | (refine XL_storeW tt_ok 1 rfl rfl rfl rfl rfl rfl rfl ?_; refine XL_nK 1 rfl (by repeat' (first | exact .nil | apply NL.cons)) ?_)) | (refine XL_op tt_ok rfl rfl ?_; try (first | refine XL_dec_t (by omega) ?_ | refine XL_dec_f (by omega) ?_ | refine XL_dec (fun _ => ?_) (fun _ => ?_)))) | (refine X_id ?_; first | refine X_seq ?_ | (refine X_regionN (by repeat' (first | exact .nil | apply NL.cons)) ?_) | refine X_skip ?_ | refine X_ret ?_ | refine X_cond_t rfl ?_ | refine X_cond_f rfl ?_) | (refine Y_id ?_; first | refine Y_then ?_ | refine Y_then_ret ?_))
    all_goals first
      | exact Y_res3 rfl (.cell tt_ok 0 rfl rfl rfl rfl rfl) (.tmp rfl) (.tmp rfl) (fin_nil encRg) (MRes.none (mapF_1 (by assumption)))
      | exact Y_res3 rfl (.cell tt_ok 0 rfl rfl rfl rfl rfl) (.tmp rfl) (.tmp rfl) (fin_nil encRg) (MRes.none (mapF_2 (by omega) (fun h => by first | omega | simp_all)))
      | exact Y_res3 rfl (.cell tt_ok 0 rfl rfl rfl rfl rfl) (.tmp rfl) (.tmp rfl) (fin_nil encRg) (MRes.none (e4 (by omega) ⟨by omega, by assumption⟩ (by omega)))
      | exact Y_res3 rfl (.cell tt_ok 1 rfl rfl rfl rfl rfl) (.tmp rfl) (.tmp rfl) (fin_nil encRg) (MRes.none ((e3 (by omega) ⟨by omega, by assumption⟩ ⟨rfl, by omega⟩).trans (f2 (by assumption))))
      | exact Y_res3 rfl (.cell tt_ok 1 rfl rfl rfl rfl rfl) (.tmp rfl) (.tmp rfl) (stars_fin1 0 rfl) ⟨o, by rw [e3 (by omega) ⟨by omega, by assumption⟩ ⟨rfl, by omega⟩, f1 (by omega)]; exact ho1, ho2, by rw [e3 (by omega) ⟨by omega, by assumption⟩ ⟨rfl, by omega⟩, f1 (by omega)]; rfl, rfl⟩
      | (exfalso; omega)
      | skip
    
theorem map_spec (A : Option Addr) (m c : Nat) (l : List Rg) (h p n q : Int) (hm : m ≤ 9223372036854775807) (hmc : m ≤ c) (hl : ∀ r ∈ l, r.In) (q1 : -9223372036854775808 ≤ p ∧ p ≤ 9223372036854775807) (q2 : -9223372036854775808 ≤ n ∧ n ≤ 9223372036854775807) (q3 : 0 ≤ q ∧ q < 256) :
    Ctr Try.prog 10 [.agg #[.slice A m c, iV h], iV p, iV n, bV q] (fun g => rdS encRg g A m l) [] (MRes (mapF l h p n q)) := by
  by_cases hp : p = 0
  · subst hp; exact map_gap A m c l h n q hm hmc hl q2 q3
  · exact map_at A m c l h p n q hm hmc hl q1 q2 q3 hp
end Go.Proofs.Ytalkcemelegohaa
