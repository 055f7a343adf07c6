/- Walks of Put, Cut, Protect. -/
import Derived.Test.YtpkffgbcebjhaaaWg
import Derived.Test.YtpkffgbcebjhaaaSlN
set_option linter.unusedVariables false
namespace Go.Proofs.Ytpkffgbcebjhaaa
open Go.RowKit Go.Cof

def fewP (xs : List Rg) : List Rg × Int := if 1024 < xs.length then ([], 3) else (xs, 0)
def putP (l : List Rg) (r : Rg) : List Rg × Int :=
  if checkE l ≠ 0 then ([], checkE l) else if pgs r.p r.n = false ∨ prm r.m = false then ([], 2) else
  if 0 < (changedF l r.p r.end [r]).2 then ([], 171) else fewP (changedF l r.p r.end [r]).1
def cutP (l : List Rg) (p n : Int) : List Rg × Int :=
  if checkE l ≠ 0 then ([], checkE l) else if pgs p n = false then ([], 2) else fewP (changedF l p (p + n) []).1
def protP (l : List Rg) (p n m : Int) : List Rg × Int :=
  if checkE l ≠ 0 then ([], checkE l) else if pgs p n = false ∨ prm m = false then ([], 2) else
  if (changedF l p (p + n) [⟨p, n, m⟩]).2 < n then ([], 170) else fewP (changedF l p (p + n) [⟨p, n, m⟩]).1
theorem checkE_good {l : List Rg} (h : checkE l = 0) : l.length ≤ 1024 ∧ ∀ r ∈ l, r.Ok := by
  unfold checkE at h
  split at h
  · cases h
  · split at h
    · rename_i h1 h2
      refine ⟨by omega, fun r hr => ?_⟩
      obtain ⟨i, hi, rfl⟩ := List.getElem_of_mem hr
      have := okAt_rg (List.all_eq_true.1 h2 i (List.mem_range.2 hi))
      unfold Cof.get at this
      rw [Int.toNat_natCast, List.getD_eq_getElem?_getD, List.getElem?_eq_getElem hi] at this
      exact this
    · cases h
theorem pgs_ok {p n m : Int} (h : pgs p n = true) (h2 : prm m = true) : (⟨p, n, m⟩ : Rg).Ok := by
  unfold pgs at h
  unfold prm at h2
  simp only [decide_eq_true_eq] at h h2
  exact ⟨h.1, h.2.2.1, by show p + n ≤ _; omega, h2⟩
theorem pgs_rng {p n : Int} (h : pgs p n = true) : 1 ≤ p ∧ 1 ≤ n ∧ p + n ≤ 1048576 := by
  unfold pgs at h
  simp only [decide_eq_true_eq] at h
  omega
theorem one_ok {r : Rg} (h : r.Ok) : ∀ x ∈ [r], x.Ok := fun x hx => by obtain rfl := List.mem_singleton.1 hx; exact h
theorem few_yes (A : Option Addr) (m c : Nat) (h : 1024 < m) (h2 : m ≤ 9223372036854775807) : FnC Try.prog 43 [.slice A m c] (fun _ => True) (.tuple #[.slice none 0 0, .int .i64 3]) := by
  have := few_spec A m c h2
  unfold fewV at this
  rwa [if_pos h] at this
theorem few_no (A : Option Addr) (m c : Nat) (h : 1024 ≥ m) : FnC Try.prog 43 [.slice A m c] (fun _ => True) (.tuple #[.slice A m c, .int .i64 0]) := by
  have := few_spec A m c (by omega)
  unfold fewV at this
  rwa [if_neg (by omega)] at this
theorem changedF_length {l ins : List Rg} (from_ to : Int) (h1 : l.length ≤ 1024) (h2 : ins.length ≤ 1024) : (changedF l from_ to ins).1.length ≤ 9000 := by
  have a1 := steps_length from_ to (l.drop (firstN l from_)) (ins.foldl addR (headF l from_), 0)
  have a2 := fold_length ins (headF l from_)
  have a3 := headF_length l from_
  have a4 := firstN_le l from_
  have e : (changedF l from_ to ins) = (l.drop (firstN l from_)).foldl (stepR from_ to) (ins.foldl addR (headF l from_), 0) := rfl
  rw [e]
  rw [List.length_drop] at a1
  simp only at a1
  omega
theorem fewP_yes {xs : List Rg} (h : 1024 < xs.length) : fewP xs = ([], 3) := if_pos h
theorem fewP_no {xs : List Rg} (h : 1024 ≥ xs.length) : fewP xs = (xs, 0) := if_neg (by omega)
theorem putP_1 {l : List Rg} {r : Rg} (h : ¬ checkE l = 0) : putP l r = ([], checkE l) := by unfold putP; rw [if_pos h]
theorem putP_2 {l : List Rg} {r : Rg} (h : ¬ ¬ checkE l = 0) (h1 : pgs r.p r.n = false) : putP l r = ([], 2) := by unfold putP; rw [if_neg h, if_pos (.inl h1)]
theorem putP_2' {l : List Rg} {r : Rg} (h : ¬ ¬ checkE l = 0) (h1 : prm r.m = false) : putP l r = ([], 2) := by unfold putP; rw [if_neg h, if_pos (.inr h1)]
theorem putP_3 {l : List Rg} {r : Rg} (h : ¬ ¬ checkE l = 0) (h1 : pgs r.p r.n = true) (h2 : prm r.m = true) (h3 : 0 < (changedF l r.p r.end [r]).2) : putP l r = ([], 171) := by unfold putP; rw [if_neg h, if_neg (by simp [h1, h2]), if_pos h3]
theorem putP_4 {l : List Rg} {r : Rg} (h : ¬ ¬ checkE l = 0) (h1 : pgs r.p r.n = true) (h2 : prm r.m = true) (h3 : ¬ 0 < (changedF l r.p r.end [r]).2) : putP l r = fewP (changedF l r.p r.end [r]).1 := by unfold putP; rw [if_neg h, if_neg (by simp [h1, h2]), if_neg h3]
theorem LRes.at {α : Type} {E : Enc α} {p q : List α × Int} {v : Value} {L : List HProp} (h : p = q) (hL : LRes E q.1 (.int .i64 q.2) v L) : LRes E p.1 (.int .i64 p.2) v L := h ▸ hL
theorem LRes.none (e : Int) : LRes encRg (([], e) : List Rg × Int).1 (.int .i64 (([], e) : List Rg × Int).2) (.tuple #[.slice .none 0 0, .int .i64 e]) [(⟨.none, 0, 0, []⟩ : Ow Rg).own encRg] := ⟨⟨.none, 0, 0, []⟩, rfl, rfl, rfl, rfl⟩
set_option maxRecDepth 100000 in
set_option maxHeartbeats 4000000 in
theorem put_spec (A : Option Addr) (m c : Nat) (l : List Rg) (r : Rg) (hm : m ≤ 9223372036854775807) (hmc : m ≤ c) (hl : ∀ r ∈ l, r.In) (hr : r.In) :
    Ctr Try.prog 14 [.slice A m c, rgV r] (fun h => rdS encRg h A m l) [] (LRes encRg (putP l r).1 (.int .i64 (putP l r).2)) := by
  refine Ctr.intro Try.func14 rfl rfl (by decide +kernel) fun F hpre => ?_
  have r1 : rdS encRg F.heap A m l := hpre
  have hlen := r1.1
  have q1 := hr.p; have q2 := hr.n; have q3 := hr.m; have ee : r.end = r.p + r.n := rfl
  have gd : checkE l = 0 → m ≤ 1024 ∧ ∀ r ∈ l, r.Ok := fun h => by have := checkE_good h; exact ⟨by omega, this.2⟩
  repeat' (first | (refine XL_id ?_; first | refine XL_nil ?_ | refine XL_guard_yes rfl rfl rfl ?_ | refine XL_guard_no rfl rfl rfl rfl rfl ?_ | (refine XG_load ?_; refine XL_load tt_ok 0 rfl rfl rfl rfl rfl rfl ?_) | (refine XG_box ?_; refine XL_box rfl (fun _ => rfl) (fun _ => ?_)) | (refine XG_call ?_; first | refine XL_fn (end_ok r (pgs_ok (by assumption) (by assumption))) rfl rfl (fun _ _ _ => trivial) ?_ | (refine XL_callK [] (changed_spec A _ m c 1 1 l [r] _ _ (gd (by omega)).1 hmc (by omega) (gd (by omega)).2 (one_ok (pgs_ok (by assumption) (by assumption))) (pgs_rng (by assumption)).1 (by have := pgs_rng (p := r.p) (n := r.n) (by assumption); omega) (by have := pgs_rng (p := r.p) (n := r.n) (by assumption); omega) (by have := pgs_rng (p := r.p) (n := r.n) (by assumption); omega)) rfl rfl (fun _ => rfl) (fun g hg hL => ⟨(r1.le hFG).le hg, blk_rdS (blk_at 0 rfl hL) rfl rfl⟩) (fun u L hv => ?_); obtain ⟨o, ho1, ho2, rfl, rfl⟩ := hv; have lno : o.m ≤ 9000 := (by rw [ho2, ho1]; exact changedF_length _ _ (by have := (gd (by omega)).1; omega) (by simp)); rcases Nat.lt_or_ge 1024 o.m with hfw | hfw) | refine XL_fn (few_yes _ _ _ hfw (by omega)) rfl rfl (fun _ _ _ => trivial) ?_ | refine XL_fn (few_no _ _ _ hfw) rfl rfl (fun _ _ _ => trivial) ?_ | refine XL_fn (check_spec _ _ _ _ (by omega) (by assumption)) rfl rfl (fun g hg _ => rdS.le (by assumption) hg) ?_ | (refine XL_fn (pages_spec _ _ (by omega) (by omega)) rfl rfl (fun _ _ _ => trivial) ?_; refine XL_bool (fun _ => ?_) (fun _ => ?_)) | (refine XL_fn (perms_spec _) rfl rfl (fun _ _ _ => trivial) ?_; refine XL_bool (fun _ => ?_) (fun _ => ?_))) | (refine XG_lit ?_; refine XL_lit tt_ok rfl rfl rfl rfl rfl rfl rfl rfl rfl (fun _ => rfl) (fun b => ?_)) | (refine XL_op tt_ok rfl rfl ?_; try (refine XL_dec (fun _ => ?_) (fun _ => ?_)))) | (refine XD_id ?_; first | (refine XD_thaw thaw ?_; refine XD_nil ?_) | (refine XD_id ?_; (first | (refine XD_uL rfl ?_; first | refine XD_s rfl rfl rfl (XV_loadW tt_ok rfl (blk_at 0 rfl hM) rfl rfl rfl) rfl ?_ | refine XD_s rfl rfl rfl (XV_load tt_ok rfl (blk_at 0 rfl hM) rfl rfl rfl) rfl ?_) | (refine XD_u rfl rfl ?_; refine XD_s rfl rfl rfl (XV_op tt_ok rfl) rfl ?_))) | refine XD_m rfl rfl ?_) | (refine X_id ?_; first | (refine X_draw2 (id := 6) ⟨[0, 1, 2, 3, 5], 4, [6, 7, 8, 9, 10, 11, 12]⟩ ⟨[0, 1, 2, 3, 5], 6, [4, 7, 8, 9, 10, 11, 12]⟩ (fun | 4 => .m | 6 => .m | 7 => .m | _ => .s) 8 (by repeat' (first | exact Split.nil | apply Split.blk)) mixed (by decide +kernel) ?_ ?_ <;> (intro G hFG hM thaw; (first | show XD _ _ _ _ _ _ [0, 1, 2, 3, 5, 4, 6, 7, 8, 9, 10, 11, 12] _ _ _ | show XD _ _ _ _ _ _ [0, 1, 2, 3, 5, 6, 4, 7, 8, 9, 10, 11, 12] _ _ _))) | refine X_seq ?_ | refine X_region ?_ | refine X_skip ?_ | refine X_ret ?_ | refine X_cond_t rfl ?_ | refine X_cond_f rfl ?_) | (refine Y_id ?_; first | refine Y_then ?_ | refine Y_then_ret ?_ | refine Y_m ?_))
  all_goals first
    | exact Y_ret2 rfl rfl rfl (fin_nil encRg) (LRes.at (putP_1 (by assumption)) (LRes.none _))
    | exact Y_ret2 rfl rfl rfl (fin_nil encRg) (LRes.at (putP_2 (by assumption) (by assumption)) (LRes.none _))
    | exact Y_ret2 rfl rfl rfl (fin_nil encRg) (LRes.at (putP_2' (by assumption) (by assumption)) (LRes.none _))
    | exact Y_ret2 rfl rfl rfl (fin_nil encRg) (LRes.at (putP_3 (by assumption) (by assumption) (by assumption) (by assumption)) (LRes.none _))
    | exact Y_ret2 rfl rfl rfl (fin_nil encRg) (LRes.at ((putP_4 (by assumption) (by assumption) (by assumption) (by assumption)).trans (fewP_yes (by rw [← ho1, ← ho2]; exact hfw))) (LRes.none _))
    | exact Y_ret2 rfl rfl rfl (stars_fin1 0 rfl) (LRes.at ((putP_4 (by assumption) (by assumption) (by assumption) (by assumption)).trans (fewP_no (by rw [← ho1, ← ho2]; exact hfw))) ⟨o, ho1, ho2, rfl, rfl⟩)
end Go.Proofs.Ytpkffgbcebjhaaa
