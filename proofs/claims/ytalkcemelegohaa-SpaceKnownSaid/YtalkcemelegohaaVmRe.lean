/- Walk of the reference's Gap. -/
import Derived.Test.YtalkcemelegohaaVmPa
set_option linter.unusedVariables false
set_option maxRecDepth 100000
namespace Go.Proofs.Ytalkcemelegohaa.Vm
open Go.RowKit Go.Cof

def gstep (l : List Rg) (n from_ to best p : Int) : Int := if p < from_ ∨ p > to - n ∨ (0 ≤ best ∧ best ≤ p) ∨ 0 < (betw l p (p + n)).length then best else p
def cands (l : List Rg) (from_ : Int) : List Int := from_ :: l.map Rg.end
def rgapB (l : List Rg) (n from_ to : Int) : Int := (cands l from_).foldl (gstep l n from_ to) (-1)
def rgapP (l : List Rg) (n from_ to : Int) : Int × Bool × Int :=
  if checkE l ≠ 0 then (0, false, checkE l) else if ¬ (1 ≤ n ∧ n ≤ 1048576) ∨ ¬ (0 ≤ from_ ∧ from_ ≤ 1048576) ∨ ¬ (from_ ≤ to ∧ to ≤ 1048576) then (0, false, 2) else
  if rgapB l n from_ to < 0 then (0, false, 0) else (rgapB l n from_ to, true, 0)
theorem rgapP_1 {l : List Rg} {n from_ to : Int} (h : ¬ checkE l = 0) : rgapP l n from_ to = (0, false, checkE l) := by unfold rgapP; rw [if_pos h]
theorem rgapP_2 {l : List Rg} {n from_ to : Int} (h : ¬ ¬ checkE l = 0) (h1 : ¬ (1 ≤ n ∧ n ≤ 1048576) ∨ ¬ (0 ≤ from_ ∧ from_ ≤ 1048576) ∨ ¬ (from_ ≤ to ∧ to ≤ 1048576)) : rgapP l n from_ to = (0, false, 2) := by unfold rgapP; rw [if_neg h, if_pos h1]
theorem rgapP_3 {l : List Rg} {n from_ to b : Int} (h : ¬ ¬ checkE l = 0) (h1 : ¬ (¬ (1 ≤ n ∧ n ≤ 1048576) ∨ ¬ (0 ≤ from_ ∧ from_ ≤ 1048576) ∨ ¬ (from_ ≤ to ∧ to ≤ 1048576))) (hb : b = rgapB l n from_ to) (h2 : b < 0) : rgapP l n from_ to = (0, false, 0) := by unfold rgapP; rw [if_neg h, if_neg h1, ← hb, if_pos h2]
theorem rgapP_4 {l : List Rg} {n from_ to b : Int} (h : ¬ ¬ checkE l = 0) (h1 : ¬ (¬ (1 ≤ n ∧ n ≤ 1048576) ∨ ¬ (0 ≤ from_ ∧ from_ ≤ 1048576) ∨ ¬ (from_ ≤ to ∧ to ≤ 1048576))) (hb : b = rgapB l n from_ to) (h2 : ¬ b < 0) : rgapP l n from_ to = (b, true, 0) := by unfold rgapP; rw [if_neg h, if_neg h1, ← hb, if_neg h2]
theorem cands_take (l : List Rg) (from_ : Int) (k : Nat) (h : k < l.length) : (cands l from_).take (k + 2) = (cands l from_).take (k + 1) ++ [(Cof.get l k).end] := by
  unfold cands
  rw [List.take_succ_cons, List.take_succ_cons, ← List.map_take, ← List.map_take, take_snoc _ _ h, List.map_append]
  rfl
set_option maxRecDepth 100000 in
set_option maxHeartbeats 4000000 in
theorem rgap_spec (A : Option Addr) (m c : Nat) (l : List Rg) (n from_ to : Int) (hm : m ≤ 9223372036854775807) (hl : ∀ r ∈ l, r.In) :
    FnC Try.prog 76 [.slice A m c, .int .i64 n, .int .i64 from_, .int .i64 to] (fun h => rdS encRg h A m l) (gapV (rgapP l n from_ to)) := by
  refine Ctr.intro Try.func76 rfl rfl (by decide +kernel) fun F hpre => ?_
  have r1 : rdS encRg F.heap A m l := hpre
  have hlen := r1.1
  have gd : checkE l = 0 → m ≤ 1024 ∧ ∀ r ∈ l, r.Ok := fun h => by have := checkE_good h; exact ⟨by omega, this.2⟩
  repeat' (first | (refine XL_id ?_; first | refine XL_nil ?_ | refine XL_guard_yes rfl rfl rfl ?_ | refine XL_guard_no rfl rfl rfl rfl rfl ?_ | (refine XG_call ?_; first | refine XL_fn (rcheck_spec _ _ _ _ (by omega) (by assumption)) rfl rfl (fun g hg _ => rdS.le (by assumption) hg) ?_ | (refine XL_fn (within_spec _ _ _) rfl rfl (fun _ _ _ => trivial) ?_; refine XL_dec (fun _ => ?_) (fun _ => ?_))) | (refine XL_op tt_ok rfl rfl ?_; try (refine XL_dec (fun _ => ?_) (fun _ => ?_)))) | (refine X_id ?_; first | refine X_seq ?_ | (refine X_regionN (by repeat' (exact .nil)) ?_) | refine X_skip ?_ | refine X_ret ?_ | refine X_block ?_ | refine X_cond_t rfl ?_ | refine X_cond_f rfl ?_) | (refine Y_id ?_; first | refine Y_then ?_ | refine Y_then_ret ?_))
  all_goals first
    | exact Y_fn3 rfl rfl rfl rfl (by rw [rgapP_1 (by assumption)]; rfl)
    | exact Y_fn3 rfl rfl rfl rfl (by rw [rgapP_2 (by assumption) (by omega)]; rfl)
    | skip
  have gd2 := gd (by omega)
  refine X_loopD2 [0, 1, 2, 3] (fun (k : Nat) (b : Int) => [(13, .int .i64 ((k : Int) - 1)), (12, .int .i64 b)]) (fun _ _ => []) (fun k b => k ≤ m + 1 ∧ b = ((cands l from_).take k).foldl (gstep l n from_ to) (-1) ∧ -1 ≤ b ∧ b ≤ 1048576) (fun k _ => m + 1 - k) 0 (-1) rfl ⟨Nat.zero_le _, rfl, by omega, by omega⟩ (by (repeat' (first | exact trivial | refine And.intro rfl ?_)); done) (fun _ h => h) ?_
  intro k b hi
  obtain ⟨hi, hb, hb0, hb1⟩ := hi
  have hbl := fun (p q : Int) => sum_betw_num (p := p) (q := q) (by omega : l.length ≤ 1024) gd2.2
  have hcl : (cands l from_).length = m + 1 := by simp [cands, hlen]
  by_cases hk0 : k = 0
  · subst hk0
    have hst : ((cands l from_).take (0 + 1)).foldl (gstep l n from_ to) (-1) = gstep l n from_ to b from_ := by rw [hb]; rfl
    repeat' (first | (refine XL_id ?_; first | refine XL_nil ?_ | refine XL_guard_yes rfl rfl rfl ?_ | refine XL_guard_no rfl rfl rfl rfl rfl ?_ | refine XL_guard_nou rfl rfl rfl rfl ?_ | (refine XG_call ?_; first | (refine XL_op tt_ok rfl rfl ?_) | (refine XL_callK [] (between_spec A m c l from_ (from_ + n) gd2.1 gd2.2 (by omega) (by omega) (by omega) (by omega)) rfl rfl (fun _ => rfl) (fun g hg hL => r1.le hg) (fun u L hv => ?_); obtain ⟨o, ho1, ho2, rfl, rfl⟩ := hv; have ho7 := ho2; rw [ho1] at ho7)) | (refine XL_op tt_ok rfl rfl ?_; try (first | refine XL_int (wrap_i64 (by omega) (by omega)) ?_ | refine XL_dec_t (by omega) ?_ | refine XL_dec_f (by omega) ?_ | refine XL_dec (fun _ => ?_) (fun _ => ?_)))) | (refine X_id ?_; first | refine X_seq ?_ | (refine X_regionN (by repeat' (first | exact .nil | apply NL.cons)) ?_) | refine X_skip ?_ | refine X_exit ?_ | refine X_block ?_ | refine X_cond_t rfl ?_ | refine X_cond_f rfl ?_) | (refine Y_id ?_; first | refine Y_then ?_ | refine Y_then_exit ?_ | refine Y_block_hit ?_ | refine Y_block_normal ?_))
    all_goals first
      | exact Y_again (0 + 1, b) fun _ _ hf hs => ⟨⟨by show 0 + 1 ≤ m + 1; omega, by rw [hst]; unfold gstep; rw [if_pos (by omega)], hb0, hb1⟩, by show m + 1 - (0 + 1) < m + 1 - 0; omega, hf.sub (by (repeat' (first | exact trivial | refine And.intro rfl ?_)); done), trivial_parts hs⟩
      | exact Y_again (0 + 1, from_) fun _ _ hf hs => ⟨⟨by show 0 + 1 ≤ m + 1; omega, by rw [hst]; unfold gstep; rw [if_neg (by omega)], by show -1 ≤ from_; omega, by show from_ ≤ _; omega⟩, by show m + 1 - (0 + 1) < m + 1 - 0; omega, hf.sub (by (repeat' (first | exact trivial | refine And.intro rfl ?_)); done), trivial_parts hs⟩
      | skip
    
  obtain ⟨i, rfl⟩ : ∃ i, k = i + 1 := ⟨k - 1, by omega⟩
  by_cases hlt : i < m
  · have okr := gd2.2 _ (get_mem (l := l) (i := (i : Int)) (by omega) (by omega))
    have q1 := okr.p; have q2 := okr.n; have q3 := okr.e
    have ee : (Cof.get l i).end = (Cof.get l i).p + (Cof.get l i).n := rfl
    have ei : ((i + 1 : Nat) : Int) - 1 = (i : Int) := by omega
    have hst : ((cands l from_).take (i + 1 + 1)).foldl (gstep l n from_ to) (-1) = gstep l n from_ to b ((Cof.get l i).p + (Cof.get l i).n) := by
      rw [cands_take _ _ _ (by omega), List.foldl_append, ← hb]; rfl
    rw [ei]
    repeat' (first | (refine XL_id ?_; first | refine XL_nil ?_ | refine XL_guard_yes rfl rfl rfl ?_ | refine XL_guard_no rfl rfl rfl rfl rfl ?_ | refine XL_guard_nou rfl rfl rfl rfl ?_ | (refine XG_call ?_; first | (refine XL_op tt_ok rfl rfl ?_) | (refine XL_callK [] (between_spec A m c l ((Cof.get l i).p + (Cof.get l i).n) ((Cof.get l i).p + (Cof.get l i).n + n) gd2.1 gd2.2 (by omega) (by omega) (by omega) (by omega)) rfl rfl (fun _ => rfl) (fun g hg hL => r1.le hg) (fun u L hv => ?_); obtain ⟨o, ho1, ho2, rfl, rfl⟩ := hv; have ho7 := ho2; rw [ho1] at ho7)) | (refine XL_op tt_ok rfl rfl ?_; try (first | refine XL_int (wrap_i64 (by omega) (by omega)) ?_ | refine XL_dec_t (by omega) ?_ | refine XL_dec (fun _ => ?_) (fun _ => ?_)))) | (refine XD_id ?_; first | (refine XD_thaw thaw ?_; refine XD_nil ?_) | (refine XD_id ?_; (first | (refine XD_uL rfl ?_; first | refine XD_s rfl rfl rfl (XV_el tt_ok rfl (rdS.le (by assumption) hFG) rfl (by omega) (by omega) rfl rfl rfl) rfl ?_ | refine XD_s rfl rfl rfl (XV_elf tt_ok rfl (rdS.le (by assumption) hFG) rfl (by omega) (by omega) rfl rfl rfl) rfl ?_) | (refine XD_uI rfl ?_; refine XD_s rfl rfl rfl (XV_idx tt_ok rfl rfl rfl rfl rfl (rdS.le (by assumption) hFG) (by omega) (by omega)) rfl ?_) | (refine XD_u rfl rfl ?_; refine XD_s rfl rfl rfl (XV_op tt_ok rfl) rfl ?_)); try (refine XD_int (wrap_i64 (by omega) (by omega)) ?_))) | (refine X_id ?_; first | (refine X_drawS (id := 12) [0, 1, 2, 3, 4, 5, 6, 7, 8, 9, 10, 11] (fun _ => .s) 8 (by repeat' (exact Split.nil)) mixed (by decide +kernel) ?_; intro G hFG hM thaw; show XD _ _ _ _ _ _ [0, 1, 2, 3, 4, 5, 6, 7, 8, 9, 10, 11] _ _ _) | refine X_seq ?_ | (refine X_regionN (by repeat' (first | exact .nil | apply NL.cons)) ?_) | refine X_skip ?_ | refine X_exit ?_ | refine X_block ?_ | refine X_cond_t rfl ?_ | refine X_cond_f rfl ?_) | (refine Y_id ?_; first | refine Y_then ?_ | refine Y_then_exit ?_ | refine Y_block_hit ?_ | refine Y_block_normal ?_))
    all_goals first
      | exact Y_again (i + 1 + 1, b) fun _ _ hf hs => ⟨⟨by show i + 1 + 1 ≤ m + 1; omega, by rw [hst]; unfold gstep; rw [if_pos (by omega)], hb0, hb1⟩, by show m + 1 - (i + 1 + 1) < m + 1 - (i + 1); omega, hf.sub (by refine And.intro ?_ (by repeat' (first | exact trivial | refine And.intro rfl ?_)); rw [show ((i + 1 + 1 : Nat) : Int) - 1 = (i : Int) + 1 from by omega]; rfl), trivial_parts hs⟩
      | exact Y_again (i + 1 + 1, (Cof.get l i).p + (Cof.get l i).n) fun _ _ hf hs => ⟨⟨by show i + 1 + 1 ≤ m + 1; omega, by rw [hst]; unfold gstep; rw [if_neg (by omega)], by show -1 ≤ (Cof.get l i).p + (Cof.get l i).n; omega, by show (Cof.get l i).p + (Cof.get l i).n ≤ _; omega⟩, by show m + 1 - (i + 1 + 1) < m + 1 - (i + 1); omega, hf.sub (by refine And.intro ?_ (by repeat' (first | exact trivial | refine And.intro rfl ?_)); rw [show ((i + 1 + 1 : Nat) : Int) - 1 = (i : Int) + 1 from by omega]; rfl), trivial_parts hs⟩
      | skip
    
  · rw [List.take_of_length_le (by omega)] at hb
    repeat' (first | (refine XL_id ?_; first | refine XL_nil ?_ | (refine XG_call ?_; (refine XL_op tt_ok rfl rfl ?_)) | (refine XL_op tt_ok rfl rfl ?_; try (first | refine XL_dec_f (by omega) ?_ | refine XL_dec (fun _ => ?_) (fun _ => ?_)))) | (refine X_id ?_; first | refine X_seq ?_ | (refine X_regionN (by repeat' (exact .nil)) ?_) | refine X_skip ?_ | refine X_ret ?_ | refine X_exit ?_ | refine X_cond_t rfl ?_ | refine X_cond_f rfl ?_) | (refine Y_id ?_; first | refine Y_then ?_ | refine Y_then_ret ?_ | refine Y_then_exit ?_ | refine Y_block_hit ?_))
    all_goals first
      | exact Y_fn3 rfl rfl rfl rfl (by rw [rgapP_3 (b := b) (by assumption) (by omega) hb (by omega)]; rfl)
      | exact Y_fn3 rfl rfl rfl rfl (by rw [rgapP_4 (b := b) (by assumption) (by omega) hb (by omega)]; rfl)
      | skip
    
end Go.Proofs.Ytalkcemelegohaa.Vm
