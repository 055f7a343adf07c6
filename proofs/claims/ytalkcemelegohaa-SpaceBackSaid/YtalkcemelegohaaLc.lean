/- The law SpaceBack, walked. -/
import Derived.Test.YtalkcemelegohaaLw
import Derived.Test.YtalkcemelegohaaPs
set_option linter.unusedVariables false
set_option maxRecDepth 100000
namespace Go.Proofs.Ytalkcemelegohaa
open Go.RowKit Go.Cof
open Vm (Rg encRg rgV)

set_option maxHeartbeats 16000000 in
theorem spaceBack_walk (A : Option Addr) (m c : Nat) (l : List Rg) (h k p n q : Int) (hm : m ≤ 5864062014634) (hmc : m ≤ c) (hl : ∀ r ∈ l, r.In) (q1 : -9223372036854775808 ≤ p ∧ p ≤ 9223372036854775807) (q2 : -9223372036854775808 ≤ n ∧ n ≤ 9223372036854775807) (q3 : 0 ≤ q ∧ q < 256) :
    FnC Try.prog 3 [.agg #[.slice A m c, iV h], .agg #[iV k, iV p, iV n, bV q]] (fun g => rdS encRg g A m l) (.bool true) := by
  have hmp := map_spec A m c l h p n q (by omega) hmc hl q1 q2 q3
  have hbk := brk_spec A m c l h n (by omega) hmc hl q2
  obtain ⟨⟨al, hh, at_, e⟩, hX⟩ : ∃ X, mapF l h p n q = X := ⟨_, rfl⟩
  obtain ⟨⟨bl, kk, e2⟩, hY⟩ : ∃ X, brkF l h n = X := ⟨_, rfl⟩
  rw [hX] at hmp
  rw [hY] at hbk
  have hun : e = 0 → ∀ A1 m1 c1, m1 = al.length → m1 ≤ c1 → Ctr Try.prog 11 [.agg #[.slice A1 m1 c1, iV hh], iV at_, iV n] (fun g => rdS encRg g A1 m1 al) [] (SRes (l, h, 0)) := fun he A1 m1 c1 h1 h2 => by
    subst he
    have md := map_done hX
    have := unmap_spec A1 m1 c1 al h at_ n (by have := md.good.fine.len; omega) h2 (rg_in md.good.fine) (by have := md.low; unfold lowP at this; omega) q2
    rw [map_back md] at this
    rw [md.hp]; exact this
  have hbb : e2 = 0 → ∀ A1 m1 c1, m1 = bl.length → m1 ≤ c1 → Ctr Try.prog 13 [.agg #[.slice A1 m1 c1, iV kk], iV h] (fun g => rdS encRg g A1 m1 bl) [] (SRes (l, h, 0)) := fun he A1 m1 c1 h1 h2 => by
    subst he
    have hs := brk_was hY
    obtain ⟨hk, ha, hn, hlow⟩ := brk_made hs hY
    have := brk_spec A1 m1 c1 bl n h (by have := ha.fine.len; omega) h2 (rg_in ha.fine) (by have := hs.rng; omega)
    rw [brk_back hs hY] at this
    rw [hk]; exact this
  refine Ctr.intro Try.func3 rfl rfl (by decide +kernel) fun F hpre => ?_
  have r1 : rdS encRg F.heap A m l := hpre
  have hlen := r1.1
  repeat' (first | (refine XL_id ?_; first | refine XL_nil ?_ | refine XL_guard_yes rfl rfl rfl ?_ | (refine XG_load ?_; first | refine XL_loadW tt_ok 0 rfl rfl rfl rfl rfl rfl ?_ | refine XL_loadW tt_ok 1 rfl rfl rfl rfl rfl rfl ?_ | refine XL_loadW tt_ok 3 rfl rfl rfl rfl rfl rfl ?_ | refine XL_loadW tt_ok 5 rfl rfl rfl rfl rfl rfl ?_ | refine XL_loadW tt_ok 6 rfl rfl rfl rfl rfl rfl ?_ | refine XL_loadW tt_ok 8 rfl rfl rfl rfl rfl rfl ?_ | refine XL_load tt_ok 0 rfl rfl rfl rfl rfl rfl ?_ | refine XL_load tt_ok 2 rfl rfl rfl rfl rfl rfl ?_ | refine XL_load tt_ok 4 rfl rfl rfl rfl rfl rfl ?_ | refine XL_load tt_ok 6 rfl rfl rfl rfl rfl rfl ?_) | (refine XG_box ?_; (refine XL_box rfl (fun _ => rfl) (fun _ => ?_); refine XL_nB (by repeat' (first | exact .nil | apply NL.cons)) ?_)) | (refine XG_call ?_; first | refine XL_fn works_spec rfl rfl (fun _ _ _ => trivial) ?_ | (refine XL_callK [] hmp rfl rfl (fun _ => rfl) (fun g hg hL => r1.le hg) (fun u L hv => ?_); obtain ⟨A1, m1, c1, hm1, rfl, rfl⟩ := MRes.ex hv; refine XL_fact 0 rfl (fun _ o => own_len o) fun hown => ?_) | (refine XL_callK [] hbk rfl rfl (fun _ => rfl) (fun g hg hL => r1.le hg) (fun u L hv => ?_); obtain ⟨A2, m2, c2, hm2, rfl, rfl⟩ := SRes.ex hv; refine XL_fact 0 rfl (fun _ o => own_len o) fun hown2 => ?_) | (refine XL_callK [] (hun (by omega) A1 m1 c1 hm1 hown.2.1) rfl rfl (fun _ => rfl) (fun g hg hL => (by exact rd_at 1 rfl hL)) (fun u L hv => ?_); obtain ⟨A3, m3, c3, hm3, rfl, rfl⟩ := SRes.ex hv) | (refine XL_callK [] (hbb (by omega) A2 m2 c2 hm2 hown2.2.1) rfl rfl (fun _ => rfl) (fun g hg hL => (by exact rd_at 0 rfl hL)) (fun u L hv => ?_); obtain ⟨A4, m4, c4, hm4, rfl, rfl⟩ := SRes.ex hv) | (refine XL_fn (same_spec A3 A m3 c3 m c l l _ _ (by omega) (by omega)) rfl rfl (fun g hg hL => ⟨(by first | exact rd_at 1 rfl hL | exact rd_at 4 rfl hL), r1.le hg⟩) ?_; refine XL_dec_t ⟨rfl, rfl⟩ ?_) | (refine XL_fn (same_spec A4 A m4 c4 m c l l _ _ (by omega) (by omega)) rfl rfl (fun g hg hL => ⟨(by exact rd_at 1 rfl hL), r1.le hg⟩) ?_; refine XL_dec_t ⟨rfl, rfl⟩ ?_)) | (refine XG_alloc ?_; (refine XL_alloc tt_ok rfl rfl (fun _ => rfl) (fun b => ?_); refine XL_nB (by repeat' (first | exact .nil | apply NL.cons)) ?_)) | (refine XG_store ?_; first | (refine XL_storeW tt_ok 0 rfl rfl rfl rfl rfl rfl rfl ?_; refine XL_nK 0 rfl (by repeat' (first | exact .nil | apply NL.cons)) ?_) | (refine XL_storeW tt_ok 1 rfl rfl rfl rfl rfl rfl rfl ?_; refine XL_nK 1 rfl (by repeat' (first | exact .nil | apply NL.cons)) ?_) | (refine XL_storeW tt_ok 3 rfl rfl rfl rfl rfl rfl rfl ?_; refine XL_nK 3 rfl (by repeat' (first | exact .nil | apply NL.cons)) ?_)) | (refine XL_op tt_ok rfl rfl ?_; try (first | refine XL_dec_t (by omega) ?_ | refine XL_dec_f (by omega) ?_ | refine XL_dec (fun _ => ?_) (fun _ => ?_)))) | (refine X_id ?_; first | refine X_seq ?_ | (refine X_regionN (by repeat' (first | exact .nil | apply NL.cons)) ?_) | refine X_skip ?_ | refine X_ret ?_ | refine X_cond_t rfl ?_ | refine X_cond_f rfl ?_) | (refine Y_id ?_; first | refine Y_then ?_ | refine Y_then_ret ?_))
  all_goals first
    | exact Y_fn1 rfl rfl rfl
    | (rename_i h; exact absurd rfl h)
    | skip
  
end Go.Proofs.Ytalkcemelegohaa
