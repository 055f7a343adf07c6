/- Delete of one number. -/
import Derived.Test.YtkcpjgdmfjhlkaaGi
set_option linter.unusedVariables false
namespace Go.Proofs.Ytkcpjgdmfjhlkaa
open Go.RowKit Go.Cof

theorem erase_eqI {α : Type} (xs : List α) (i : Nat) : xs.take i ++ xs.drop (i + 1) = xs.eraseIdx i := (List.eraseIdx_eq_take_drop_succ ..).symm
set_option maxHeartbeats 4000000 in
/-- One is taken out. -/
theorem deleteI_spec (b m c : Nat) (xs : List Int) (i : Nat) (hm : m ≤ 100000) (hi : i < m) :
    Ctr Try.prog 28 [.slice (some ⟨b, 0, none⟩) m c, iV i, iV ((i : Int) + 1)] (fun _ => True) [own encN (some ⟨b, 0, none⟩) m c xs] (fun v L => v = .slice (some ⟨b, 0, none⟩) (m - 1) c ∧ L = [own encN (some ⟨b, 0, none⟩) (m - 1) c (xs.eraseIdx i)]) := by
  refine Ctr.intro Try.func28 rfl rfl (by decide +kernel) fun F hpre => ?_
  refine X_fact 0 rfl (fun _ o => own_len o) fun hlen => ?_
  obtain ⟨hl, hc1, hc2⟩ := hlen
  have e2 : i + (m - (i + 1)) = m - 1 := by omega
  have htl : xs.take m = xs := List.take_of_length_le (by omega)
  have hfin : ∀ ys zs g, own encN (some ⟨b, 0, none⟩) m c ((xs.take i ++ xs.drop (i + 1) ++ xs.drop (m - 1)).take (m - 1) ++ ys ++ zs) g → own encN (some ⟨b, 0, none⟩) (m - 1) c (xs.eraseIdx i) g := fun ys zs g hg => by
    have h1 := own_take hg (m - 1) (by omega)
    have h2 : (xs.take i ++ xs.drop (i + 1)).length = m - 1 := by rw [List.length_append, List.length_take, List.length_drop]; omega
    rw [List.append_assoc, List.take_append_of_le_length (by rw [List.length_take, List.length_append]; omega), List.take_take, Nat.min_self, List.take_append_of_le_length (by omega), List.take_of_length_le (by omega), erase_eqI] at h1
    exact h1
  repeat' (first | (refine XL_id ?_; first | refine XL_nil ?_ | (refine XG_slice ?_; first | refine XL_slicel tt_ok rfl rfl rfl rfl (.lohimx (by omega) (by omega) (by omega) (by omega)) (by omega) rfl rfl rfl rfl ?_ | refine XL_slicel tt_ok rfl rfl rfl rfl (.lohi (by omega) (by omega) (by omega)) (by omega) rfl rfl rfl rfl ?_) | (refine XG_call ?_; first | (refine XL_op tt_ok rfl rfl ?_) | (refine XL_appC (q := i) (m' := m - (i + 1)) (ys := xs.drop (i + 1)) (E := encN) tt_ok 0 rfl rfl (fun w hs => by obtain ⟨g, hg, _, hA⟩ := hs.at (k := 0) rfl; have h1 := ((own_rd hA).le hg).sub (l := i + 1) (k := m) (cc := c) (by omega) (by omega) (by omega); rw [htl] at h1; exact h1) (by omega) rfl rfl rfl rfl rfl rfl ?_; rw [e2]) | refine XL_clear tt_ok 0 (m - 1) (0 : Int) rfl rfl ?_ (by omega) rfl rfl rfl rfl rfl rfl rfl ?_) | (refine XL_op tt_ok rfl rfl ?_; try (refine XL_dec_f (by omega) ?_))) | (refine XD_id ?_; first | (refine XD_thaw thaw ?_; refine XD_nil ?_) | (refine XD_id ?_; ((refine XD_u rfl rfl ?_; first | refine XD_s rfl rfl rfl (XV_op tt_ok rfl) rfl ?_ | refine XD_s rfl rfl rfl (XV_slicel tt_ok rfl rfl rfl rfl (.hi (by omega) (by omega)) (by omega) rfl rfl rfl) rfl ?_ | refine XD_s rfl rfl rfl (XV_slice tt_ok rfl rfl rfl rfl (.lo (by omega) (by omega)) rfl rfl rfl) rfl ?_))) | refine XD_m rfl rfl ?_) | (refine X_id ?_; first | (refine X_drawS (id := 5) [0, 1, 2, 3, 4, 5, 6, 7] (fun | 6 => .m | _ => .s) 8 (by (repeat apply Split.blk); apply Split.keep; repeat' (exact Split.nil)) mixed (by decide +kernel) ?_; intro G hFG hM thaw; show XD _ _ _ _ _ _ [0, 1, 2, 3, 4, 5, 6, 7] _ _ _) | refine X_seq ?_ | (refine X_regionN (by repeat' (first | exact .nil | apply NL.cons)) ?_) | refine X_skip ?_ | refine X_ret ?_ | refine X_cond_f rfl ?_) | (refine Y_id ?_; first | refine Y_then ?_ | refine Y_m ?_))
  · show 0 + (m - 1) * 1 = (m - 1) * 1
    omega
  · exact Y_ret1 rfl rfl (stars_fin [0] rfl fun h hs => hfin _ _ _ (stars_own hs)) ⟨rfl, rfl⟩
end Go.Proofs.Ytkcpjgdmfjhlkaa
