/- Walks of the reference's with, Put, Cut, Protect. -/
import Derived.Test.YtpkffgbcebjhaaaRb
set_option linter.unusedVariables false
namespace Go.Proofs.Ytpkffgbcebjhaaa
open Go.RowKit Go.Cof

theorem partR_ok {from_ to : Int} {r x : Rg} (h : r.Ok) (h1 : partR from_ to r = some x) : x.Ok := by
  have q1 := h.p; have q2 := h.n; have q3 := h.e; have ee : r.end = r.p + r.n := rfl
  by_cases hc : (if from_ > r.p then from_ else r.p) ≥ (if to < r.end then to else r.end)
  · rw [part_none hc] at h1; cases h1
  · rw [part_some hc] at h1
    cases h1
    exact ⟨by show 1 ≤ if from_ > r.p then from_ else r.p; omega, by show 1 ≤ (if to < r.end then to else r.end) - (if from_ > r.p then from_ else r.p); omega, by show (if from_ > r.p then from_ else r.p) + ((if to < r.end then to else r.end) - (if from_ > r.p then from_ else r.p)) ≤ _; omega, h.m⟩
theorem betw_ok {l : List Rg} {from_ to : Int} (hl : ∀ r ∈ l, r.Ok) : ∀ x ∈ betw l from_ to, x.Ok := fun x hx => by
  obtain ⟨r, hr, h⟩ := List.mem_filterMap.1 hx
  exact partR_ok (hl r hr) h
def withP (l : List Rg) (p n : Int) (ins : List Rg) : List Rg × Int := fewP ((betw l 0 p ++ ins ++ betw l (p + n) 1048576).foldl addR [])
set_option maxRecDepth 100000 in
set_option maxHeartbeats 4000000 in
theorem with_spec (A B : Option Addr) (m c m' c' : Nat) (l ins : List Rg) (p n : Int) (hm : m ≤ 1024) (hm' : m' ≤ 1024) (hl : ∀ r ∈ l, r.Ok) (hi : ∀ r ∈ ins, r.Ok) (h1 : 1 ≤ p) (h2 : 1 ≤ n) (h3 : p + n ≤ 1048576) :
    Ctr Try.prog 45 [.slice A m c, spV p n, .slice B m' c'] (fun h => rdS encRg h A m l ∧ rdS encRg h B m' ins) [] (LRes encRg (withP l p n ins).1 (.int .i64 (withP l p n ins).2)) := by
  refine Ctr.intro Try.func45 rfl rfl (by decide +kernel) fun F hpre => ?_
  have r1 : rdS encRg F.heap A m l := hpre.1
  have r2 : rdS encRg F.heap B m' ins := hpre.2
  have hlen := r1.1
  have hlen2 := r2.1
  have b1 := betw_length l 0 p
  have b2 := betw_length l (p + n) 1048576
  have okx : ∀ r ∈ betw l 0 p ++ ins ++ betw l (p + n) 1048576, r.Ok := fun r hr => by
    rcases List.mem_append.1 hr with h | h
    · rcases List.mem_append.1 h with h | h
      · exact betw_ok hl r h
      · exact hi r h
    · exact betw_ok hl r h
  repeat' (first | (refine XL_id ?_; first | refine XL_nil ?_ | (refine XG_load ?_; first | refine XL_load tt_ok 0 rfl rfl rfl rfl rfl rfl ?_ | refine XL_load tt_ok 1 rfl rfl rfl rfl rfl rfl ?_) | (refine XG_box ?_; refine XL_box rfl (fun _ => rfl) (fun _ => ?_)) | (refine XG_call ?_; first | (refine XL_callK [] (between_spec A m c l 0 p hm hl (by omega) (by omega) (by omega) (by omega)) rfl rfl (fun _ => rfl) (fun g hg hL => r1.le hg) (fun u L hv => ?_); obtain ⟨o, ho1, ho2, rfl, rfl⟩ := hv) | (refine XL_callK [] (between_spec A m c l (p + n) 1048576 hm hl (by omega) (by omega) (by omega) (by omega)) rfl rfl (fun _ => rfl) (fun g hg hL => r1.le hg) (fun u L hv => ?_); obtain ⟨o2, ho3, ho4, rfl, rfl⟩ := hv) | (refine XL_appF tt_ok 0 rfl rfl r2 rfl rfl rfl rfl rfl rfl rfl (by show (_ : Nat) * 24 ≤ _; rw [ho2, ho1]; omega) (by rw [ho2, ho1]; omega) (fun _ _ => rfl) (fun A1 c1 => ?_)) | (refine XL_appO tt_ok 1 0 rfl rfl rfl rfl rfl rfl rfl rfl rfl rfl (by show (_ : Nat) * 24 ≤ _; rw [ho2, ho1, ho4, ho3]; omega) (by rw [ho2, ho1, ho4, ho3]; omega) (fun _ _ => rfl) (fun A3 c3 => ?_)) | (refine XL_callK [] (joined_spec A3 _ c3 (o.xs ++ ins ++ o2.xs) (by rw [ho2, ho1, ho4, ho3]; omega) (by rw [ho1, ho3]; exact okx)) rfl rfl (fun _ => rfl) (fun g hg hL => rd_at 1 rfl hL) (fun u L hv => ?_); obtain ⟨o3, ho5, ho6, rfl, rfl⟩ := hv)) | (refine XL_op tt_ok rfl rfl ?_; try (refine XL_int (wrap_i64 (by omega) (by omega)) ?_))) | (refine X_id ?_; first | refine X_seq ?_ | refine X_region ?_ | refine X_ret ?_) | (refine Y_id ?_; refine Y_then ?_))
  exact Y_ret2 rfl rfl rfl (stars_only [0] rfl) ⟨o3, by rw [ho5, ho1, ho3]; rfl, ho6, by rw [ho1, ho3]; rfl, rfl⟩
def rputP (l : List Rg) (r : Rg) : List Rg × Int :=
  if checkE l ≠ 0 then ([], checkE l) else if pgs r.p r.n = false ∨ prm r.m = false then ([], 2) else
  if 0 < (betw l r.p r.end).length then ([], 171) else withP l r.p r.n [r]
def rcutP (l : List Rg) (p n : Int) : List Rg × Int :=
  if checkE l ≠ 0 then ([], checkE l) else if pgs p n = false then ([], 2) else withP l p n []
def rprotP (l : List Rg) (p n m : Int) : List Rg × Int :=
  if checkE l ≠ 0 then ([], checkE l) else if pgs p n = false ∨ prm m = false then ([], 2) else
  if ¬ (betw l p (p + n)).foldl (fun s r => s + r.n) 0 = n then ([], 170) else withP l p n [⟨p, n, m⟩]
theorem rputP_1 {l : List Rg} {r : Rg} (h : ¬ checkE l = 0) : rputP l r = ([], checkE l) := by unfold rputP; rw [if_pos h]
theorem rputP_2 {l : List Rg} {r : Rg} (h : ¬ ¬ checkE l = 0) (h1 : pgs r.p r.n = false) : rputP l r = ([], 2) := by unfold rputP; rw [if_neg h, if_pos (.inl h1)]
theorem rputP_2' {l : List Rg} {r : Rg} (h : ¬ ¬ checkE l = 0) (h1 : prm r.m = false) : rputP l r = ([], 2) := by unfold rputP; rw [if_neg h, if_pos (.inr h1)]
theorem rputP_3 {l : List Rg} {r : Rg} (h : ¬ ¬ checkE l = 0) (h1 : pgs r.p r.n = true) (h2 : prm r.m = true) (h3 : 0 < (betw l r.p r.end).length) : rputP l r = ([], 171) := by unfold rputP; rw [if_neg h, if_neg (by simp [h1, h2]), if_pos h3]
theorem rputP_4 {l : List Rg} {r : Rg} (h : ¬ ¬ checkE l = 0) (h1 : pgs r.p r.n = true) (h2 : prm r.m = true) (h3 : ¬ 0 < (betw l r.p r.end).length) : rputP l r = withP l r.p r.n [r] := by unfold rputP; rw [if_neg h, if_neg (by simp [h1, h2]), if_neg h3]
theorem rcutP_1 {l : List Rg} {p n : Int} (h : ¬ checkE l = 0) : rcutP l p n = ([], checkE l) := by unfold rcutP; rw [if_pos h]
theorem rcutP_2 {l : List Rg} {p n : Int} (h : ¬ ¬ checkE l = 0) (h1 : pgs p n = false) : rcutP l p n = ([], 2) := by unfold rcutP; rw [if_neg h, if_pos h1]
theorem rcutP_4 {l : List Rg} {p n : Int} (h : ¬ ¬ checkE l = 0) (h1 : pgs p n = true) : rcutP l p n = withP l p n [] := by unfold rcutP; rw [if_neg h, if_neg (by simp [h1])]
theorem rprotP_1 {l : List Rg} {p n m : Int} (h : ¬ checkE l = 0) : rprotP l p n m = ([], checkE l) := by unfold rprotP; rw [if_pos h]
theorem rprotP_2 {l : List Rg} {p n m : Int} (h : ¬ ¬ checkE l = 0) (h1 : pgs p n = false) : rprotP l p n m = ([], 2) := by unfold rprotP; rw [if_neg h, if_pos (.inl h1)]
theorem rprotP_2' {l : List Rg} {p n m : Int} (h : ¬ ¬ checkE l = 0) (h1 : prm m = false) : rprotP l p n m = ([], 2) := by unfold rprotP; rw [if_neg h, if_pos (.inr h1)]
theorem rprotP_3 {l : List Rg} {p n m : Int} (h : ¬ ¬ checkE l = 0) (h1 : pgs p n = true) (h2 : prm m = true) (h3 : ¬ (betw l p (p + n)).foldl (fun s r => s + r.n) 0 = n) : rprotP l p n m = ([], 170) := by unfold rprotP; rw [if_neg h, if_neg (by simp [h1, h2]), if_pos h3]
theorem rprotP_4 {l : List Rg} {p n m : Int} (h : ¬ ¬ checkE l = 0) (h1 : pgs p n = true) (h2 : prm m = true) (h3 : ¬ ¬ (betw l p (p + n)).foldl (fun s r => s + r.n) 0 = n) : rprotP l p n m = withP l p n [⟨p, n, m⟩] := by unfold rprotP; rw [if_neg h, if_neg (by simp [h1, h2]), if_neg h3]
set_option maxRecDepth 100000 in
set_option maxHeartbeats 4000000 in
theorem rput_spec (A : Option Addr) (m c : Nat) (l : List Rg) (r : Rg) (hm : m ≤ 9223372036854775807) (hl : ∀ r ∈ l, r.In) (hr : r.In) :
    Ctr Try.prog 15 [.slice A m c, rgV r] (fun h => rdS encRg h A m l) [] (LRes encRg (rputP l r).1 (.int .i64 (rputP l r).2)) := by
  refine Ctr.intro Try.func15 rfl rfl (by decide +kernel) fun F hpre => ?_
  have r1 : rdS encRg F.heap A m l := hpre
  have hlen := r1.1
  have q1 := hr.p; have q2 := hr.n; have q3 := hr.m; have ee : r.end = r.p + r.n := rfl
  have gd : checkE l = 0 → m ≤ 1024 ∧ ∀ r ∈ l, r.Ok := fun h => by have := checkE_good h; exact ⟨by omega, this.2⟩
  have wr : pgs r.p r.n = true → IntKind.i64.wrap (r.p + r.n) = r.end := fun h => by have := pgs_rng h; exact wrap_i64 (by omega) (by omega)
  repeat' (first | (refine XL_id ?_; first | refine XL_nil ?_ | refine XL_guard_yes rfl rfl rfl ?_ | refine XL_guard_no rfl rfl rfl rfl rfl ?_ | refine XL_int (wr (by assumption)) ?_ | (refine XG_load ?_; first | refine XL_loadW tt_ok 1 rfl rfl rfl rfl rfl rfl ?_ | refine XL_load tt_ok 0 rfl rfl rfl rfl rfl rfl ?_ | refine XL_load tt_ok 1 rfl rfl rfl rfl rfl rfl ?_) | (refine XG_box ?_; refine XL_box rfl (fun _ => rfl) (fun _ => ?_)) | (refine XG_build ?_; refine XL_build tt_ok rfl rfl rfl rfl rfl rfl rfl ?_) | (refine XG_call ?_; first | (refine XL_op tt_ok rfl rfl ?_) | (refine XL_callK [] (between_spec A m c l r.p r.end (gd (by omega)).1 (gd (by omega)).2 (by have := pgs_rng (p := r.p) (n := r.n) (by assumption); omega) (by have := pgs_rng (p := r.p) (n := r.n) (by assumption); omega) (by have := pgs_rng (p := r.p) (n := r.n) (by assumption); omega) (by have := pgs_rng (p := r.p) (n := r.n) (by assumption); omega)) rfl rfl (fun _ => rfl) (fun g hg hL => r1.le (Hp.le.trans (by exact Hp.le_refl _) hg)) (fun u L hv => ?_); obtain ⟨o, ho1, ho2, rfl, rfl⟩ := hv; have ho7 := ho2; rw [ho1] at ho7) | (refine XL_callK [] (with_spec A _ m c 1 1 l [r] _ _ (gd (by omega)).1 (by omega) (gd (by omega)).2 (one_ok (pgs_ok (by assumption) (by assumption))) (pgs_rng (by assumption)).1 (by have := pgs_rng (p := r.p) (n := r.n) (by assumption); omega) (by have := pgs_rng (p := r.p) (n := r.n) (by assumption); omega)) rfl rfl (fun _ => rfl) (fun g hg hL => ⟨r1.le (Hp.le.trans (by exact Hp.le_refl _) hg), blk_rdS (blk_at 0 rfl hL) rfl rfl⟩) (fun u L hv => ?_); obtain ⟨o, ho1, ho2, rfl, rfl⟩ := hv) | refine XL_fn (rcheck_spec _ _ _ _ (by omega) (by assumption)) rfl rfl (fun g hg _ => rdS.le (by assumption) hg) ?_ | (refine XL_fn (rpages_spec _ _ (by omega) (by omega)) rfl rfl (fun _ _ _ => trivial) ?_; refine XL_bool (fun _ => ?_) (fun _ => ?_)) | (refine XL_fn (rperm_spec _) rfl rfl (fun _ _ _ => trivial) ?_; refine XL_bool (fun _ => ?_) (fun _ => ?_))) | (refine XG_lit ?_; refine XL_lit tt_ok rfl rfl rfl rfl rfl rfl rfl rfl rfl (fun _ => rfl) (fun b => ?_)) | (refine XL_op tt_ok rfl rfl ?_; try (refine XL_dec (fun _ => ?_) (fun _ => ?_)))) | (refine X_id ?_; first | refine X_seq ?_ | refine X_region ?_ | refine X_skip ?_ | refine X_ret ?_ | refine X_cond_t rfl ?_ | refine X_cond_f rfl ?_) | (refine Y_id ?_; first | refine Y_then ?_ | refine Y_then_ret ?_))
  all_goals first
    | exact Y_ret2 rfl rfl rfl (fin_nil encRg) (LRes.at (rputP_1 (by assumption)) (LRes.none _))
    | exact Y_ret2 rfl rfl rfl (fin_nil encRg) (LRes.at (rputP_2 (by assumption) (by assumption)) (LRes.none _))
    | exact Y_ret2 rfl rfl rfl (fin_nil encRg) (LRes.at (rputP_2' (by assumption) (by assumption)) (LRes.none _))
    | exact Y_ret2 rfl rfl rfl (fin_nil encRg) (LRes.at (rputP_3 (by assumption) (by assumption) (by assumption) (by omega)) (LRes.none _))
    | exact Y_ret2 rfl rfl rfl (stars_fin1 0 rfl) (LRes.at (rputP_4 (by assumption) (by assumption) (by assumption) (by omega)) ⟨o, ho1, ho2, rfl, rfl⟩)
    | skip
  
theorem sum_betw_num {l : List Rg} {p q : Int} (h : l.length ≤ 1024) (hl : ∀ r ∈ l, r.Ok) : (betw l p q).length ≤ 1024 ∧ ∀ r ∈ betw l p q, r.Ok := ⟨Nat.le_trans (betw_length _ _ _) h, betw_ok hl⟩
set_option maxRecDepth 100000 in
set_option maxHeartbeats 4000000 in
theorem rcut_spec (A : Option Addr) (m c : Nat) (l : List Rg) (p n : Int) (hm : m ≤ 9223372036854775807) (hl : ∀ r ∈ l, r.In) (q1 : -9223372036854775808 ≤ p ∧ p ≤ 9223372036854775807) :
    Ctr Try.prog 19 [.slice A m c, spV p n] (fun h => rdS encRg h A m l) [] (LRes encRg (rcutP l p n).1 (.int .i64 (rcutP l p n).2)) := by
  refine Ctr.intro Try.func19 rfl rfl (by decide +kernel) fun F hpre => ?_
  have r1 : rdS encRg F.heap A m l := hpre
  have hlen := r1.1
  have gd : checkE l = 0 → m ≤ 1024 ∧ ∀ r ∈ l, r.Ok := fun h => by have := checkE_good h; exact ⟨by omega, this.2⟩
  repeat' (first | (refine XL_id ?_; first | refine XL_nil ?_ | (refine XG_load ?_; first | refine XL_loadW tt_ok 0 rfl rfl rfl rfl rfl rfl ?_ | refine XL_load tt_ok 0 rfl rfl rfl rfl rfl rfl ?_) | (refine XG_box ?_; refine XL_box rfl (fun _ => rfl) (fun _ => ?_)) | (refine XG_call ?_; first | (refine XL_callK [] (with_spec A _ m c 0 0 l [] _ _ (gd (by omega)).1 (by omega) (gd (by omega)).2 (fun _ h => by cases h) (pgs_rng (by assumption)).1 (by have := pgs_rng (p := p) (n := n) (by assumption); omega) (by have := pgs_rng (p := p) (n := n) (by assumption); omega)) rfl rfl (fun _ => rfl) (fun g hg hL => ⟨r1.le hg, rdS.nil _ _ _⟩) (fun u L hv => ?_); obtain ⟨o, ho1, ho2, rfl, rfl⟩ := hv) | refine XL_fn (rcheck_spec _ _ _ _ (by omega) (by assumption)) rfl rfl (fun g hg _ => rdS.le (by assumption) hg) ?_ | (refine XL_fn (rpages_spec _ _ (by omega) (by omega)) rfl rfl (fun _ _ _ => trivial) ?_; refine XL_bool (fun _ => ?_) (fun _ => ?_))) | (refine XL_op tt_ok rfl rfl ?_; try (refine XL_dec (fun _ => ?_) (fun _ => ?_)))) | (refine X_id ?_; first | refine X_seq ?_ | refine X_region ?_ | refine X_skip ?_ | refine X_ret ?_ | refine X_cond_t rfl ?_ | refine X_cond_f rfl ?_) | (refine Y_id ?_; first | refine Y_then ?_ | refine Y_then_ret ?_))
  all_goals first
    | exact Y_ret2 rfl rfl rfl (fin_nil encRg) (LRes.at (rcutP_1 (by assumption)) (LRes.none _))
    | exact Y_ret2 rfl rfl rfl (fin_nil encRg) (LRes.at (rcutP_2 (by assumption) (by assumption)) (LRes.none _))
    | exact Y_ret2 rfl rfl rfl (stars_fin1 0 rfl) (LRes.at (rcutP_4 (by assumption) (by assumption)) ⟨o, ho1, ho2, rfl, rfl⟩)
    | skip
  
set_option maxRecDepth 100000 in
set_option maxHeartbeats 4000000 in
theorem rprot_spec (A : Option Addr) (m c : Nat) (l : List Rg) (p n q : Int) (hm : m ≤ 9223372036854775807) (hl : ∀ r ∈ l, r.In) (q1 : -9223372036854775808 ≤ p ∧ p ≤ 9223372036854775807) :
    Ctr Try.prog 21 [.slice A m c, spV p n, .int .u8 q] (fun h => rdS encRg h A m l) [] (LRes encRg (rprotP l p n q).1 (.int .i64 (rprotP l p n q).2)) := by
  refine Ctr.intro Try.func21 rfl rfl (by decide +kernel) fun F hpre => ?_
  have r1 : rdS encRg F.heap A m l := hpre
  have hlen := r1.1
  have gd : checkE l = 0 → m ≤ 1024 ∧ ∀ r ∈ l, r.Ok := fun h => by have := checkE_good h; exact ⟨by omega, this.2⟩
  have wr : pgs p n = true → IntKind.i64.wrap (p + n) = p + n := fun h => by have := pgs_rng h; exact wrap_i64 (by omega) (by omega)
  repeat' (first | (refine XL_id ?_; first | refine XL_nil ?_ | refine XL_guard_yes rfl rfl rfl ?_ | refine XL_guard_no rfl rfl rfl rfl rfl ?_ | (refine XG_load ?_; first | refine XL_loadW tt_ok 1 rfl rfl rfl rfl rfl rfl ?_ | refine XL_load tt_ok 0 rfl rfl rfl rfl rfl rfl ?_ | refine XL_load tt_ok 1 rfl rfl rfl rfl rfl rfl ?_) | (refine XG_box ?_; refine XL_box rfl (fun _ => rfl) (fun _ => ?_)) | (refine XG_build ?_; refine XL_build tt_ok rfl rfl rfl rfl rfl rfl rfl ?_) | (refine XG_call ?_; first | (refine XL_callK [] (between_spec A m c l p (p + n) (gd (by omega)).1 (gd (by omega)).2 (by have := pgs_rng (p := p) (n := n) (by assumption); omega) (by have := pgs_rng (p := p) (n := n) (by assumption); omega) (by have := pgs_rng (p := p) (n := n) (by assumption); omega) (by have := pgs_rng (p := p) (n := n) (by assumption); omega)) rfl rfl (fun _ => rfl) (fun g hg hL => r1.le (Hp.le.trans (by exact hFG) hg)) (fun u L hv => ?_); obtain ⟨o, ho1, ho2, rfl, rfl⟩ := hv; have ho7 := ho2; rw [ho1] at ho7; have hb := sum_betw_num (p := p) (q := p + n) (by have := (gd (by omega)).1; omega : l.length ≤ 1024) (gd (by omega)).2) | (refine XL_fn (count_spec _ _ _ (betw l p (p + n)) (by rw [ho7]; exact hb.1) hb.2) rfl rfl (fun g hg hL => by rw [← ho1]; exact rd_at 0 rfl hL) ?_) | (refine XL_callK [] (with_spec A _ m c 1 1 l [⟨p, n, q⟩] _ _ (gd (by omega)).1 (by omega) (gd (by omega)).2 (one_ok (pgs_ok (by assumption) (by assumption))) (pgs_rng (by assumption)).1 (by have := pgs_rng (p := p) (n := n) (by assumption); omega) (by have := pgs_rng (p := p) (n := n) (by assumption); omega)) rfl rfl (fun _ => rfl) (fun g hg hL => ⟨r1.le (Hp.le.trans (by exact Hp.le_refl _) hg), blk_rdS (blk_at 0 rfl hL) rfl rfl⟩) (fun u L hv => ?_); obtain ⟨o, ho1, ho2, rfl, rfl⟩ := hv) | refine XL_fn (rcheck_spec _ _ _ _ (by omega) (by assumption)) rfl rfl (fun g hg _ => rdS.le (by assumption) hg) ?_ | (refine XL_fn (rpages_spec _ _ (by omega) (by omega)) rfl rfl (fun _ _ _ => trivial) ?_; refine XL_bool (fun _ => ?_) (fun _ => ?_)) | (refine XL_fn (rperm_spec _) rfl rfl (fun _ _ _ => trivial) ?_; refine XL_bool (fun _ => ?_) (fun _ => ?_))) | (refine XG_lit ?_; refine XL_lit tt_ok rfl rfl rfl rfl rfl rfl rfl rfl rfl (fun _ => rfl) (fun b => ?_)) | (refine XL_op tt_ok rfl rfl ?_; try (refine XL_dec (fun _ => ?_) (fun _ => ?_)))) | (refine XD_id ?_; first | refine XD_int (wr (by assumption)) ?_ | (refine XD_thaw thaw ?_; refine XD_nil ?_) | (refine XD_id ?_; (first | (refine XD_uL rfl ?_; refine XD_s rfl rfl rfl (XV_load tt_ok rfl (blk_at 0 rfl hM) rfl rfl rfl) rfl ?_) | (refine XD_u rfl rfl ?_; refine XD_s rfl rfl rfl (XV_op tt_ok rfl) rfl ?_)); try (refine XD_dec (fun _ => ?_) (fun _ => ?_))) | refine XD_m rfl rfl ?_) | (refine X_id ?_; first | (refine X_drawS (id := 6) [0, 1, 2, 3, 4, 5, 6, 7, 10, 11, 8, 9, 12] (fun | 8 => .m | 9 => .m | _ => .s) 8 (by repeat' (first | exact Split.nil | apply Split.blk)) mixed (by decide +kernel) ?_; intro G hFG hM thaw; show XD _ _ _ _ _ _ [0, 1, 2, 3, 4, 5, 6, 7, 10, 11, 8, 9, 12] _ _ _) | refine X_seq ?_ | refine X_region ?_ | refine X_skip ?_ | refine X_ret ?_ | refine X_cond_t rfl ?_ | refine X_cond_f rfl ?_) | (refine Y_id ?_; first | refine Y_then ?_ | refine Y_then_ret ?_ | refine Y_m ?_))
  all_goals first
    | exact Y_ret2 rfl rfl rfl (fin_nil encRg) (LRes.at (rprotP_1 (by assumption)) (LRes.none _))
    | exact Y_ret2 rfl rfl rfl (fin_nil encRg) (LRes.at (rprotP_2 (by assumption) (by assumption)) (LRes.none _))
    | exact Y_ret2 rfl rfl rfl (fin_nil encRg) (LRes.at (rprotP_2' (by assumption) (by assumption)) (LRes.none _))
    | exact Y_ret2 rfl rfl rfl (fin_nil encRg) (LRes.at (rprotP_3 (by assumption) (by assumption) (by assumption) (by assumption)) (LRes.none _))
    | exact Y_ret2 rfl rfl rfl (stars_fin1 0 rfl) (LRes.at (rprotP_4 (by assumption) (by assumption) (by assumption) (by assumption)) ⟨o, ho1, ho2, rfl, rfl⟩)
    | skip
  
end Go.Proofs.Ytpkffgbcebjhaaa
