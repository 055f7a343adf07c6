/- The laws' steps: done, told. -/
import Derived.Test.YtalkcemelegohaaLw
import Derived.Test.YtalkcemelegohaaPt
import Derived.Test.YtalkcemelegohaaSl
import Derived.Test.YtalkcemelegohaaSB
import Derived.Test.YtalkcemelegohaaGxGi
set_option linter.unusedVariables false
set_option maxRecDepth 100000
namespace Go.Proofs.Ytalkcemelegohaa
open Go.RowKit Go.Cof
open Vm (Rg encRg rgV)

theorem doF_0 {l : List Rg} {h k p n q : Int} (hk : k % 4 = 0) : doF l h k p n q = mapF l h p n q := if_pos hk
theorem doF_1 {l : List Rg} {h k p n q : Int} (hk : k % 4 = 1) : doF l h k p n q = conv (unmapF l h p n) := by unfold doF; rw [if_neg (by omega), if_pos hk]
theorem doF_2 {l : List Rg} {h k p n q : Int} (hk : k % 4 = 2) : doF l h k p n q = conv (protectF l h p n q) := by unfold doF; rw [if_neg (by omega), if_neg (by omega), if_pos hk]
theorem doF_3 {l : List Rg} {h k p n q : Int} (h1 : ¬ k % 4 = 0) (h2 : ¬ k % 4 = 1) (h3 : ¬ k % 4 = 2) : doF l h k p n q = conv (brkF l h n) := by unfold doF; rw [if_neg h1, if_neg h2, if_neg h3]
theorem MRes.of {xs : List Rg} {h p e : Int} {x : List Rg × Int × Int × Int} {A : Option Addr} {m c : Nat} (hx : x = (xs, h, p, e)) (hm : m = xs.length) : MRes x (.tuple #[.agg #[.slice A m c, iV h], iV p, iV e]) [own encRg A m c xs] := by
  subst hx; exact ⟨⟨A, m, c, xs⟩, rfl, hm, rfl, rfl⟩
set_option maxHeartbeats 16000000 in
theorem done_spec (A : Option Addr) (m c : Nat) (l : List Rg) (h k p n q : Int) (hm : m ≤ 9223372036854775807) (hmc : m ≤ c) (hl : ∀ r ∈ l, r.In) (q0 : -9223372036854775808 ≤ k ∧ k ≤ 9223372036854775807) (q1 : -9223372036854775808 ≤ p ∧ p ≤ 9223372036854775807) (q2 : -9223372036854775808 ≤ n ∧ n ≤ 9223372036854775807) (q3 : 0 ≤ q ∧ q < 256) :
    Ctr Try.prog 17 [.agg #[.slice A m c, iV h], .agg #[iV k, iV p, iV n, bV q]] (fun g => rdS encRg g A m l) [] (MRes (doF l h k p n q)) := by
  have h1 := map_spec A m c l h p n q hm hmc hl q1 q2 q3
  have h2 := unmap_spec A m c l h p n hm hmc hl q1 q2
  have h3 := protect_spec A m c l h p n q hm hmc hl q1 q2
  have h4 := brk_spec A m c l h n hm hmc hl q2
  have hw := Gx.within_spec k 4 q0.1 q0.2 (by omega) (by omega)
  obtain ⟨⟨x1, y1, z1, w1⟩, e1⟩ : ∃ X, mapF l h p n q = X := ⟨_, rfl⟩
  obtain ⟨⟨x2, y2, z2⟩, e2⟩ : ∃ X, unmapF l h p n = X := ⟨_, rfl⟩
  obtain ⟨⟨x3, y3, z3⟩, e3⟩ : ∃ X, protectF l h p n q = X := ⟨_, rfl⟩
  obtain ⟨⟨x4, y4, z4⟩, e4⟩ : ∃ X, brkF l h n = X := ⟨_, rfl⟩
  have d0 := fun hk => doF_0 (l := l) (h := h) (k := k) (p := p) (n := n) (q := q) hk
  have d1 := fun hk => doF_1 (l := l) (h := h) (k := k) (p := p) (n := n) (q := q) hk
  have d2 := fun hk => doF_2 (l := l) (h := h) (k := k) (p := p) (n := n) (q := q) hk
  have d3 := fun hk hk2 hk3 => doF_3 (l := l) (h := h) (k := k) (p := p) (n := n) (q := q) hk hk2 hk3
  rw [e1] at h1 d0
  rw [e2] at h2 d1
  rw [e3] at h3 d2
  rw [e4] at h4 d3
  obtain ⟨kk, hkk⟩ : ∃ x, k % 4 = x := ⟨_, rfl⟩
  rw [hkk] at hw d0 d1 d2 d3
  refine Ctr.intro Try.func17 rfl rfl (by decide +kernel) fun F hpre => ?_
  have r1 : rdS encRg F.heap A m l := hpre
  repeat' (first | (refine XL_id ?_; first | refine XL_nil ?_ | (refine XG_load ?_; first | refine XL_loadW tt_ok 0 rfl rfl rfl rfl rfl rfl ?_ | refine XL_loadW tt_ok 2 rfl rfl rfl rfl rfl rfl ?_ | refine XL_load tt_ok 1 rfl rfl rfl rfl rfl rfl ?_) | (refine XG_box ?_; (refine XL_box rfl (fun _ => rfl) (fun _ => ?_); refine XL_nB (by repeat' (first | exact .nil | apply NL.cons)) ?_)) | (refine XG_call ?_; first | refine XL_fn hw rfl rfl (fun _ _ _ => trivial) ?_ | (refine XL_callK [] h1 rfl rfl (fun _ => rfl) (fun g hg hL => r1.le hg) (fun u L hv => ?_); obtain ⟨A1, m1, c1, hm1, rfl, rfl⟩ := MRes.ex hv) | (refine XL_callK [] h2 rfl rfl (fun _ => rfl) (fun g hg hL => r1.le hg) (fun u L hv => ?_); obtain ⟨A1, m1, c1, hm1, rfl, rfl⟩ := SRes.ex hv) | (refine XL_callK [] h3 rfl rfl (fun _ => rfl) (fun g hg hL => r1.le hg) (fun u L hv => ?_); obtain ⟨A1, m1, c1, hm1, rfl, rfl⟩ := SRes.ex hv) | (refine XL_callK [] h4 rfl rfl (fun _ => rfl) (fun g hg hL => r1.le hg) (fun u L hv => ?_); obtain ⟨A1, m1, c1, hm1, rfl, rfl⟩ := SRes.ex hv)) | (refine XG_alloc ?_; (refine XL_alloc tt_ok rfl rfl (fun _ => rfl) (fun b => ?_); refine XL_nB (by repeat' (first | exact .nil | apply NL.cons)) ?_)) | (refine XG_store ?_; first | (refine XL_storeW tt_ok 0 rfl rfl rfl rfl rfl rfl rfl ?_; refine XL_nK 0 rfl (by repeat' (first | exact .nil | apply NL.cons)) ?_) | (refine XL_storeW tt_ok 1 rfl rfl rfl rfl rfl rfl rfl ?_; refine XL_nK 1 rfl (by repeat' (first | exact .nil | apply NL.cons)) ?_) | (refine XL_storeW tt_ok 2 rfl rfl rfl rfl rfl rfl rfl ?_; refine XL_nK 2 rfl (by repeat' (first | exact .nil | apply NL.cons)) ?_)) | (refine XL_op tt_ok rfl rfl ?_; try (refine XL_dec (fun _ => ?_) (fun _ => ?_)))) | (refine X_id ?_; first | refine X_seq ?_ | (refine X_regionN (by repeat' (first | exact .nil | apply NL.cons)) ?_) | refine X_skip ?_ | refine X_ret ?_ | refine X_block ?_ | refine X_cond_t rfl ?_ | refine X_cond_f rfl ?_) | (refine Y_id ?_; first | refine Y_then ?_ | refine Y_then_ret ?_ | refine Y_block_normal ?_ | refine Y_block_ret ?_))
  all_goals first
    | exact Y_res3 rfl (.cell tt_ok 1 rfl rfl rfl rfl rfl) (.tmp rfl) (.tmp rfl) (stars_fin1 0 rfl) (MRes.of (d0 (by omega)) hm1)
    | exact Y_res3 rfl (.cell tt_ok 2 rfl rfl rfl rfl rfl) (.tmp rfl) (.tmp rfl) (stars_fin1 1 rfl) (MRes.of (d1 (by omega)) hm1)
    | exact Y_res3 rfl (.cell tt_ok 2 rfl rfl rfl rfl rfl) (.tmp rfl) (.tmp rfl) (stars_fin1 1 rfl) (MRes.of (d2 (by omega)) hm1)
    | exact Y_res3 rfl (.cell tt_ok 2 rfl rfl rfl rfl rfl) (.tmp rfl) (.tmp rfl) (stars_fin1 1 rfl) (MRes.of (d3 (by omega) (by omega) (by omega)) hm1)
    | skip
  
set_option maxHeartbeats 16000000 in
theorem told_spec (A : Option Addr) (m c : Nat) (l : List Rg) (h k p n q : Int) (hm : m ≤ 9223372036854775807) (hmc : m ≤ c) (hl : ∀ r ∈ l, r.In) (q0 : -9223372036854775808 ≤ k ∧ k ≤ 9223372036854775807) (q1 : -9223372036854775808 ≤ p ∧ p ≤ 9223372036854775807) (q2 : -9223372036854775808 ≤ n ∧ n ≤ 9223372036854775807) (q3 : 0 ≤ q ∧ q < 256) :
    Ctr Try.prog 18 [.agg #[.slice A m c, iV h], .agg #[iV k, iV p, iV n, bV q]] (fun g => rdS encRg g A m l) [] (MRes (doF l h k p n q)) := by
  have h1 := qmap_spec A m c l h p n q hm hl q1 q2 q3
  have h2 := qunmap_spec A m c l h p n hm hmc hl q1 q2
  have h3 := qprotect_spec A m c l h p n q hm hmc hl q1 q2
  have h4 := qbrk_spec A m c l h n hm hl q2
  have hw := Gx.within_spec k 4 q0.1 q0.2 (by omega) (by omega)
  obtain ⟨⟨x1, y1, z1, w1⟩, e1⟩ : ∃ X, mapF l h p n q = X := ⟨_, rfl⟩
  obtain ⟨⟨x2, y2, z2⟩, e2⟩ : ∃ X, unmapF l h p n = X := ⟨_, rfl⟩
  obtain ⟨⟨x3, y3, z3⟩, e3⟩ : ∃ X, protectF l h p n q = X := ⟨_, rfl⟩
  obtain ⟨⟨x4, y4, z4⟩, e4⟩ : ∃ X, brkF l h n = X := ⟨_, rfl⟩
  have d0 := fun hk => doF_0 (l := l) (h := h) (k := k) (p := p) (n := n) (q := q) hk
  have d1 := fun hk => doF_1 (l := l) (h := h) (k := k) (p := p) (n := n) (q := q) hk
  have d2 := fun hk => doF_2 (l := l) (h := h) (k := k) (p := p) (n := n) (q := q) hk
  have d3 := fun hk hk2 hk3 => doF_3 (l := l) (h := h) (k := k) (p := p) (n := n) (q := q) hk hk2 hk3
  rw [e1] at h1 d0
  rw [e2] at h2 d1
  rw [e3] at h3 d2
  rw [e4] at h4 d3
  obtain ⟨kk, hkk⟩ : ∃ x, k % 4 = x := ⟨_, rfl⟩
  rw [hkk] at hw d0 d1 d2 d3
  refine Ctr.intro Try.func18 rfl rfl (by decide +kernel) fun F hpre => ?_
  have r1 : rdS encRg F.heap A m l := hpre
  repeat' (first | (refine XL_id ?_; first | refine XL_nil ?_ | (refine XG_load ?_; first | refine XL_loadW tt_ok 0 rfl rfl rfl rfl rfl rfl ?_ | refine XL_loadW tt_ok 2 rfl rfl rfl rfl rfl rfl ?_ | refine XL_load tt_ok 1 rfl rfl rfl rfl rfl rfl ?_) | (refine XG_box ?_; (refine XL_box rfl (fun _ => rfl) (fun _ => ?_); refine XL_nB (by repeat' (first | exact .nil | apply NL.cons)) ?_)) | (refine XG_call ?_; first | refine XL_fn hw rfl rfl (fun _ _ _ => trivial) ?_ | (refine XL_callK [] h1 rfl rfl (fun _ => rfl) (fun g hg hL => r1.le hg) (fun u L hv => ?_); obtain ⟨A1, m1, c1, hm1, rfl, rfl⟩ := MRes.ex hv) | (refine XL_callK [] h2 rfl rfl (fun _ => rfl) (fun g hg hL => r1.le hg) (fun u L hv => ?_); obtain ⟨A1, m1, c1, hm1, rfl, rfl⟩ := SRes.ex hv) | (refine XL_callK [] h3 rfl rfl (fun _ => rfl) (fun g hg hL => r1.le hg) (fun u L hv => ?_); obtain ⟨A1, m1, c1, hm1, rfl, rfl⟩ := SRes.ex hv) | (refine XL_callK [] h4 rfl rfl (fun _ => rfl) (fun g hg hL => r1.le hg) (fun u L hv => ?_); obtain ⟨A1, m1, c1, hm1, rfl, rfl⟩ := SRes.ex hv)) | (refine XG_alloc ?_; (refine XL_alloc tt_ok rfl rfl (fun _ => rfl) (fun b => ?_); refine XL_nB (by repeat' (first | exact .nil | apply NL.cons)) ?_)) | (refine XG_store ?_; first | (refine XL_storeW tt_ok 0 rfl rfl rfl rfl rfl rfl rfl ?_; refine XL_nK 0 rfl (by repeat' (first | exact .nil | apply NL.cons)) ?_) | (refine XL_storeW tt_ok 1 rfl rfl rfl rfl rfl rfl rfl ?_; refine XL_nK 1 rfl (by repeat' (first | exact .nil | apply NL.cons)) ?_) | (refine XL_storeW tt_ok 2 rfl rfl rfl rfl rfl rfl rfl ?_; refine XL_nK 2 rfl (by repeat' (first | exact .nil | apply NL.cons)) ?_)) | (refine XL_op tt_ok rfl rfl ?_; try (refine XL_dec (fun _ => ?_) (fun _ => ?_)))) | (refine X_id ?_; first | refine X_seq ?_ | (refine X_regionN (by repeat' (first | exact .nil | apply NL.cons)) ?_) | refine X_skip ?_ | refine X_ret ?_ | refine X_block ?_ | refine X_cond_t rfl ?_ | refine X_cond_f rfl ?_) | (refine Y_id ?_; first | refine Y_then ?_ | refine Y_then_ret ?_ | refine Y_block_normal ?_ | refine Y_block_ret ?_))
  all_goals first
    | exact Y_res3 rfl (.cell tt_ok 1 rfl rfl rfl rfl rfl) (.tmp rfl) (.tmp rfl) (stars_fin1 0 rfl) (MRes.of (d0 (by omega)) hm1)
    | exact Y_res3 rfl (.cell tt_ok 2 rfl rfl rfl rfl rfl) (.tmp rfl) (.tmp rfl) (stars_fin1 1 rfl) (MRes.of (d1 (by omega)) hm1)
    | exact Y_res3 rfl (.cell tt_ok 2 rfl rfl rfl rfl rfl) (.tmp rfl) (.tmp rfl) (stars_fin1 1 rfl) (MRes.of (d2 (by omega)) hm1)
    | exact Y_res3 rfl (.cell tt_ok 2 rfl rfl rfl rfl rfl) (.tmp rfl) (.tmp rfl) (stars_fin1 1 rfl) (MRes.of (d3 (by omega) (by omega) (by omega)) hm1)
    | skip
  
end Go.Proofs.Ytalkcemelegohaa
