/- Walks of Cut and Protect. -/
import Derived.Test.YtpkffgbcebjhaaaWh
set_option linter.unusedVariables false
namespace Go.Proofs.Ytpkffgbcebjhaaa
open Go.RowKit Go.Cof

abbrev spV (p n : Int) : Value := .agg #[.int .i64 p, .int .i64 n]
theorem cutP_1 {l : List Rg} {p n : Int} (h : ¬ checkE l = 0) : cutP l p n = ([], checkE l) := by unfold cutP; rw [if_pos h]
theorem cutP_2 {l : List Rg} {p n : Int} (h : ¬ ¬ checkE l = 0) (h1 : pgs p n = false) : cutP l p n = ([], 2) := by unfold cutP; rw [if_neg h, if_pos h1]
theorem cutP_4 {l : List Rg} {p n : Int} (h : ¬ ¬ checkE l = 0) (h1 : pgs p n = true) : cutP l p n = fewP (changedF l p (p + n) []).1 := by unfold cutP; rw [if_neg h, if_neg (by simp [h1])]
set_option maxRecDepth 100000 in
set_option maxHeartbeats 4000000 in
theorem cut_spec (A : Option Addr) (m c : Nat) (l : List Rg) (p n : Int) (hm : m ≤ 9223372036854775807) (hmc : m ≤ c) (hl : ∀ r ∈ l, r.In) (q1 : -9223372036854775808 ≤ p ∧ p ≤ 9223372036854775807) :
    Ctr Try.prog 18 [.slice A m c, spV p n] (fun h => rdS encRg h A m l) [] (LRes encRg (cutP l p n).1 (.int .i64 (cutP l p n).2)) := by
  refine Ctr.intro Try.func18 rfl rfl (by decide +kernel) fun F hpre => ?_
  have r1 : rdS encRg F.heap A m l := hpre
  have hlen := r1.1
  have gd : checkE l = 0 → m ≤ 1024 ∧ ∀ r ∈ l, r.Ok := fun h => by have := checkE_good h; exact ⟨by omega, this.2⟩
  have wr : pgs p n = true → IntKind.i64.wrap (p + n) = p + n := fun h => by have := pgs_rng h; exact wrap_i64 (by omega) (by omega)
  repeat' (first | (refine XL_id ?_; first | refine XL_nil ?_ | (refine XL_int (wr (by assumption)) ?_; refine XL_callK [] (changed_spec A _ m c 0 0 l [] _ _ (gd (by omega)).1 hmc (by omega) (gd (by omega)).2 (fun _ h => by cases h) (pgs_rng (by assumption)).1 (by have := pgs_rng (p := p) (n := n) (by assumption); omega) (by have := pgs_rng (p := p) (n := n) (by assumption); omega) (by have := pgs_rng (p := p) (n := n) (by assumption); omega)) rfl rfl (fun _ => rfl) (fun g hg hL => ⟨r1.le hg, rdS.nil _ _ _⟩) (fun u L hv => ?_); obtain ⟨o, ho1, ho2, rfl, rfl⟩ := hv; have lno : o.m ≤ 9000 := (by rw [ho2, ho1]; exact changedF_length _ _ (by have := (gd (by omega)).1; omega) (by simp)); rcases Nat.lt_or_ge 1024 o.m with hfw | hfw) | (refine XG_load ?_; refine XL_load tt_ok 0 rfl rfl rfl rfl rfl rfl ?_) | (refine XG_box ?_; refine XL_box rfl (fun _ => rfl) (fun _ => ?_)) | (refine XG_call ?_; first | refine XL_fn (few_yes _ _ _ hfw (by omega)) rfl rfl (fun _ _ _ => trivial) ?_ | refine XL_fn (few_no _ _ _ hfw) rfl rfl (fun _ _ _ => trivial) ?_ | refine XL_fn (check_spec _ _ _ _ (by omega) (by assumption)) rfl rfl (fun g hg _ => rdS.le (by assumption) hg) ?_ | (refine XL_fn (pages_spec _ _ (by omega) (by omega)) rfl rfl (fun _ _ _ => trivial) ?_; refine XL_bool (fun _ => ?_) (fun _ => ?_))) | (refine XL_op tt_ok rfl rfl ?_; try (refine XL_dec (fun _ => ?_) (fun _ => ?_)))) | (refine X_id ?_; first | refine X_seq ?_ | refine X_region ?_ | refine X_skip ?_ | refine X_ret ?_ | refine X_cond_t rfl ?_ | refine X_cond_f rfl ?_) | (refine Y_id ?_; first | refine Y_then ?_ | refine Y_then_ret ?_))
  all_goals first
    | exact Y_ret2 rfl rfl rfl (fin_nil encRg) (LRes.at (cutP_1 (by assumption)) (LRes.none _))
    | exact Y_ret2 rfl rfl rfl (fin_nil encRg) (LRes.at (cutP_2 (by assumption) (by assumption)) (LRes.none _))
    | exact Y_ret2 rfl rfl rfl (fin_nil encRg) (LRes.at ((cutP_4 (by assumption) (by assumption)).trans (fewP_yes (by rw [← ho1, ← ho2]; exact hfw))) (LRes.none _))
    | exact Y_ret2 rfl rfl rfl (stars_fin1 0 rfl) (LRes.at ((cutP_4 (by assumption) (by assumption)).trans (fewP_no (by rw [← ho1, ← ho2]; exact hfw))) ⟨o, ho1, ho2, rfl, rfl⟩)
theorem protP_1 {l : List Rg} {p n m : Int} (h : ¬ checkE l = 0) : protP l p n m = ([], checkE l) := by unfold protP; rw [if_pos h]
theorem protP_2 {l : List Rg} {p n m : Int} (h : ¬ ¬ checkE l = 0) (h1 : pgs p n = false) : protP l p n m = ([], 2) := by unfold protP; rw [if_neg h, if_pos (.inl h1)]
theorem protP_2' {l : List Rg} {p n m : Int} (h : ¬ ¬ checkE l = 0) (h1 : prm m = false) : protP l p n m = ([], 2) := by unfold protP; rw [if_neg h, if_pos (.inr h1)]
theorem protP_3 {l : List Rg} {p n m : Int} (h : ¬ ¬ checkE l = 0) (h1 : pgs p n = true) (h2 : prm m = true) (h3 : (changedF l p (p + n) [⟨p, n, m⟩]).2 < n) : protP l p n m = ([], 170) := by unfold protP; rw [if_neg h, if_neg (by simp [h1, h2]), if_pos h3]
theorem protP_4 {l : List Rg} {p n m : Int} (h : ¬ ¬ checkE l = 0) (h1 : pgs p n = true) (h2 : prm m = true) (h3 : ¬ (changedF l p (p + n) [⟨p, n, m⟩]).2 < n) : protP l p n m = fewP (changedF l p (p + n) [⟨p, n, m⟩]).1 := by unfold protP; rw [if_neg h, if_neg (by simp [h1, h2]), if_neg h3]
set_option maxRecDepth 100000 in
set_option maxHeartbeats 4000000 in
theorem prot_spec (A : Option Addr) (m c : Nat) (l : List Rg) (p n q : Int) (hm : m ≤ 9223372036854775807) (hmc : m ≤ c) (hl : ∀ r ∈ l, r.In) (q1 : -9223372036854775808 ≤ p ∧ p ≤ 9223372036854775807) :
    Ctr Try.prog 20 [.slice A m c, spV p n, .int .u8 q] (fun h => rdS encRg h A m l) [] (LRes encRg (protP l p n q).1 (.int .i64 (protP l p n q).2)) := by
  refine Ctr.intro Try.func20 rfl rfl (by decide +kernel) fun F hpre => ?_
  have r1 : rdS encRg F.heap A m l := hpre
  have hlen := r1.1
  have gd : checkE l = 0 → m ≤ 1024 ∧ ∀ r ∈ l, r.Ok := fun h => by have := checkE_good h; exact ⟨by omega, this.2⟩
  have wr : pgs p n = true → IntKind.i64.wrap (p + n) = p + n := fun h => by have := pgs_rng h; exact wrap_i64 (by omega) (by omega)
  repeat' (first | (refine XL_id ?_; first | refine XL_nil ?_ | refine XL_guard_yes rfl rfl rfl ?_ | refine XL_guard_no rfl rfl rfl rfl rfl ?_ | refine XL_int (wr (by assumption)) ?_ | (refine XG_load ?_; first | refine XL_load tt_ok 0 rfl rfl rfl rfl rfl rfl ?_ | refine XL_load tt_ok 2 rfl rfl rfl rfl rfl rfl ?_) | (refine XG_box ?_; refine XL_box rfl (fun _ => rfl) (fun _ => ?_)) | (refine XG_build ?_; refine XL_build tt_ok rfl rfl rfl rfl rfl rfl rfl ?_) | (refine XG_call ?_; first | (refine XL_callK [] (changed_spec A _ m c 1 1 l [⟨p, n, q⟩] _ _ (gd (by omega)).1 hmc (by omega) (gd (by omega)).2 (one_ok (pgs_ok (by assumption) (by assumption))) (pgs_rng (by assumption)).1 (by have := pgs_rng (p := p) (n := n) (by assumption); omega) (by have := pgs_rng (p := p) (n := n) (by assumption); omega) (by have := pgs_rng (p := p) (n := n) (by assumption); omega)) rfl rfl (fun _ => rfl) (fun g hg hL => ⟨r1.le hg, blk_rdS (blk_at 0 rfl hL) rfl rfl⟩) (fun u L hv => ?_); obtain ⟨o, ho1, ho2, rfl, rfl⟩ := hv; have lno : o.m ≤ 9000 := (by rw [ho2, ho1]; exact changedF_length _ _ (by have := (gd (by omega)).1; omega) (by simp)); rcases Nat.lt_or_ge 1024 o.m with hfw | hfw) | refine XL_fn (few_yes _ _ _ hfw (by omega)) rfl rfl (fun _ _ _ => trivial) ?_ | refine XL_fn (few_no _ _ _ hfw) rfl rfl (fun _ _ _ => trivial) ?_ | refine XL_fn (check_spec _ _ _ _ (by omega) (by assumption)) rfl rfl (fun g hg _ => rdS.le (by assumption) hg) ?_ | (refine XL_fn (pages_spec _ _ (by omega) (by omega)) rfl rfl (fun _ _ _ => trivial) ?_; refine XL_bool (fun _ => ?_) (fun _ => ?_)) | (refine XL_fn (perms_spec _) rfl rfl (fun _ _ _ => trivial) ?_; refine XL_bool (fun _ => ?_) (fun _ => ?_))) | (refine XG_lit ?_; refine XL_lit tt_ok rfl rfl rfl rfl rfl rfl rfl rfl rfl (fun _ => rfl) (fun b => ?_)) | (refine XL_op tt_ok rfl rfl ?_; try (refine XL_dec (fun _ => ?_) (fun _ => ?_)))) | (refine X_id ?_; first | refine X_seq ?_ | refine X_region ?_ | refine X_skip ?_ | refine X_ret ?_ | refine X_cond_t rfl ?_ | refine X_cond_f rfl ?_) | (refine Y_id ?_; first | refine Y_then ?_ | refine Y_then_ret ?_))
  all_goals first
    | exact Y_ret2 rfl rfl rfl (fin_nil encRg) (LRes.at (protP_1 (by assumption)) (LRes.none _))
    | exact Y_ret2 rfl rfl rfl (fin_nil encRg) (LRes.at (protP_2 (by assumption) (by assumption)) (LRes.none _))
    | exact Y_ret2 rfl rfl rfl (fin_nil encRg) (LRes.at (protP_2' (by assumption) (by assumption)) (LRes.none _))
    | exact Y_ret2 rfl rfl rfl (fin_nil encRg) (LRes.at (protP_3 (by assumption) (by assumption) (by assumption) (by assumption)) (LRes.none _))
    | exact Y_ret2 rfl rfl rfl (fin_nil encRg) (LRes.at ((protP_4 (by assumption) (by assumption) (by assumption) (by assumption)).trans (fewP_yes (by rw [← ho1, ← ho2]; exact hfw))) (LRes.none _))
    | exact Y_ret2 rfl rfl rfl (stars_fin1 0 rfl) (LRes.at ((protP_4 (by assumption) (by assumption) (by assumption) (by assumption)).trans (fewP_no (by rw [← ho1, ← ho2]; exact hfw))) ⟨o, ho1, ho2, rfl, rfl⟩)
end Go.Proofs.Ytpkffgbcebjhaaa
