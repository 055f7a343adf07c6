/- Insert of one number. -/
import Derived.Test.YtkcpjgdmfjhlkaaGi
import Derived.KernelRfl
set_option linter.unusedVariables false
namespace Go.Proofs.Ytkcpjgdmfjhlkaa
open Go.RowKit Go.Cof

theorem ins_grow {xs : List Int} {i m : Nat} {x : Int} (hl : m = xs.length) (hi : i < m) :
    (((xs.take i ++ List.replicate (m + 1 - i) 0).take i ++ [x] ++ (xs.take i ++ List.replicate (m + 1 - i) 0).drop (i + 1)).take (i + 1) ++ xs.drop i ++ ((xs.take i ++ List.replicate (m + 1 - i) 0).take i ++ [x] ++ (xs.take i ++ List.replicate (m + 1 - i) 0).drop (i + 1)).drop (i + 1 + (m - i))) = xs.take i ++ x :: xs.drop i := by
  have h1 : (xs.take i).length = i := by rw [List.length_take]; omega
  have h2 : (xs.take i ++ List.replicate (m + 1 - i) (0 : Int)).take i = xs.take i := by rw [List.take_append_of_le_length (by omega), List.take_take, Nat.min_self]
  rw [h2]
  have h3 : (xs.take i ++ [x]).length = i + 1 := by rw [List.length_append, h1]; rfl
  generalize hu : (xs.take i ++ List.replicate (m + 1 - i) (0 : Int)).drop (i + 1) = u
  have hul : u.length = m - i := by rw [← hu, List.length_drop, List.length_append, h1, List.length_replicate]; omega
  have h4 : (xs.take i ++ [x] ++ u).take (i + 1) = xs.take i ++ [x] := List.take_left' h3
  have h5 : (xs.take i ++ [x] ++ u).drop (i + 1 + (m - i)) = [] := List.drop_of_length_le (by rw [List.length_append, h3, hul]; omega)
  rw [h4, h5, List.append_nil, List.append_assoc]
  rfl
theorem ins_room {xs : List Int} {i m : Nat} {x : Int} (hl : m = xs.length) (hi : i < m) :
    ((xs.take (i + 1) ++ xs.drop i).take i ++ [x] ++ (xs.take (i + 1) ++ xs.drop i).drop (i + 1)) = xs.take i ++ x :: xs.drop i := by
  have h1 : (xs.take (i + 1)).length = i + 1 := by rw [List.length_take]; omega
  have h2 : (xs.take (i + 1) ++ xs.drop i).take i = xs.take i := by rw [List.take_append_of_le_length (by omega), List.take_take, Nat.min_eq_left (by omega)]
  have h3 : (xs.take (i + 1) ++ xs.drop i).drop (i + 1) = xs.drop i := List.drop_left' h1
  rw [h2, h3, List.append_assoc]
  rfl
theorem ins_end {xs : List Int} {m : Nat} {x : Int} (hl : m = xs.length) : xs.take m ++ x :: xs.drop m = xs ++ [x] := by
  rw [List.take_of_length_le (by omega), List.drop_of_length_le (by omega)]
set_option maxHeartbeats 8000000 in
theorem insertI_spec (A : Option Addr) (m c : Nat) (xs : List Int) (i : Nat) (vb : Nat) (x : Int) (hm : m ≤ 100000) (hi : i ≤ m) :
    Ctr Try.prog 34 [.slice A m c, iV i, .slice (some ⟨vb, 0, none⟩) 1 1] (fun h => blk vb [iV x] 3 h) [own encN A m c xs] (fun v L => ∃ A' c', v = .slice A' (m + 1) c' ∧ L = [own encN A' (m + 1) c' (xs.take i ++ x :: xs.drop i)]) := by
  refine Ctr.intro Try.func34 rfl rfl (by decide +kernel) fun F hpre => ?_
  have hb : blk vb [iV x] 3 F.heap := hpre
  have hbr : rdS encN F.heap (some ⟨vb, 0, none⟩) 1 [x] := blk_rdS hb rfl rfl
  refine X_fact 0 rfl (fun _ o => own_len o) fun hlen => ?_
  obtain ⟨hl, hc1, hc2⟩ := hlen
  have hmx : c ≤ 9223372036854775807 := by simp only [maxLen] at hc2; omega
  by_cases him : i = m
  · subst him
    rw [ins_end hl]
    repeat' (first | (refine XL_id ?_; first | refine XL_nil ?_ | (refine XG_slice ?_; refine XL_slice tt_ok rfl rfl rfl rfl (.lo (by omega) (by omega)) rfl rfl rfl rfl ?_) | (refine XG_call ?_; first | (refine XL_op tt_ok rfl rfl ?_) | (refine XL_appF tt_ok 0 rfl rfl hbr rfl rfl rfl rfl rfl rfl rfl (by show (_ : Nat) * 8 ≤ _; omega) (by omega) (fun _ _ => rfl) (fun A2 c2 => ?_))) | (refine XL_op tt_ok rfl rfl ?_; try (first | refine XL_dec_t (by omega) ?_ | refine XL_dec_f (by omega) ?_))) | (refine X_id ?_; first | refine X_seq ?_ | (refine X_regionN (by repeat' (first | exact .nil | apply NL.cons)) ?_) | refine X_skip ?_ | refine X_ret ?_ | refine X_cond_t rfl ?_ | refine X_cond_f rfl ?_) | (refine Y_id ?_; first | refine Y_then ?_ | refine Y_then_ret ?_))
    all_goals first
      | exact Y_ret1 rfl rfl (fun _ h => h) ⟨A2, c2, rfl, rfl⟩
      | (exfalso; omega)
      | skip
    
  · refine X_fact 0 rfl (fun _ o => own_some o (by omega)) fun hq2 => ?_
    obtain ⟨bq, rfl⟩ := hq2
    by_cases hroom : m + 1 ≤ c
    · have e1 : i + 1 + (m - i) = m + 1 := by omega
      have hin := ins_room (x := x) hl (i := i) (by omega)
      repeat' (first | (refine XL_id ?_; first | refine XL_nil ?_ | refine XL_ovl (t := 44) (tr := 4) tt_ok 0 Try.func38 (by decide +kernel) rfl (by kernel_rfl) (by kernel_rfl) rfl (by omega) hb rfl rfl rfl rfl rfl ?_ | (refine XG_slice ?_; first | refine XL_slice0 tt_ok rfl rfl rfl (.hi (by omega) (by omega)) rfl rfl rfl rfl ?_ | refine XL_slicel tt_ok rfl rfl rfl rfl (.lo (by omega) (by omega)) (by omega) rfl rfl rfl rfl ?_) | (refine XG_call ?_; first | (refine XL_op tt_ok rfl rfl ?_) | (refine XL_copyG tt_ok 0 (i + 1) (j := m - i) (ys := xs.drop i) rfl rfl (by show 0 + (i + 1) * 1 = (i + 1) * 1; omega) (by show min (m + 1 - i) (m + 1 - (i + 1)) = m - i; omega) (fun w hs => by obtain ⟨g, hg, _, hA⟩ := hs.at (k := 0) rfl; have h1 := ((own_rd hA).le hg).sub (l := i) (k := m) (cc := c) (by omega) (by omega) (by omega); rw [List.take_of_length_le (by omega)] at h1; exact h1) (by omega) (by omega) (by omega) rfl rfl rfl rfl rfl ?_; rw [e1]) | (refine XL_copyJ tt_ok 0 i 1 [x] rfl rfl (by show 0 + i * 1 = i * 1; omega) (by show min 1 (m + 1 - i) = 1; omega) (fun w hs => hbr.le hs.frz) (by omega) rfl rfl rfl rfl rfl ?_)) | (refine XL_op tt_ok rfl rfl ?_; try (first | refine XL_int (wrap_i64 (by omega) (by omega)) ?_ | refine XL_dec_f (by omega) ?_))) | (refine XD_id ?_; first | (refine XD_thaw thaw ?_; refine XD_nil ?_) | (refine XD_id ?_; ((refine XD_u rfl rfl ?_; first | refine XD_s rfl rfl rfl (XV_op tt_ok rfl) rfl ?_ | refine XD_s rfl rfl rfl (XV_slicel tt_ok rfl rfl rfl rfl (.lo (x := (i : Int) + 1) (by omega) (by omega)) (by omega) rfl rfl rfl) rfl ?_ | refine XD_s rfl rfl rfl (XV_slice tt_ok rfl rfl rfl rfl (.lo (by omega) (by omega)) rfl rfl rfl) rfl ?_)); try (refine XD_int (wrap_i64 (by omega) (by omega)) ?_)) | refine XD_m rfl rfl ?_) | (refine X_id ?_; first | (refine X_drawS (id := 15) [0, 1, 2, 3, 4, 5, 6, 7, 8] (fun | 8 => .m | _ => .s) 8 (by (repeat apply Split.blk); apply Split.keep; repeat' (exact Split.nil)) mixed (by decide +kernel) ?_; intro G hFG hM thaw; show XD _ _ _ _ _ _ [0, 1, 2, 3, 4, 5, 6, 7, 8] _ _ _) | refine X_seq ?_ | (refine X_regionN (by repeat' (first | exact .nil | apply NL.cons)) ?_) | refine X_skip ?_ | refine X_ret ?_ | refine X_cond_t rfl ?_ | refine X_cond_f rfl ?_) | (refine Y_id ?_; first | refine Y_then ?_ | refine Y_then_ret ?_ | refine Y_m ?_))
      all_goals first
        | exact Y_ret1 rfl rfl (fun _ h => by rw [← hin]; exact h) ⟨_, _, rfl, rfl⟩
        | (exfalso; omega)
        | skip
      
    · have e1 : i + (m + 1 - i) = m + 1 := by omega
      have hin := ins_grow (x := x) hl (i := i) (by omega)
      repeat' (first | (refine XL_id ?_; first | refine XL_nil ?_ | (refine XG_slice ?_; first | refine XL_slice0 tt_ok rfl rfl rfl (.hi (by omega) (by omega)) rfl rfl rfl rfl ?_ | refine XL_slicel tt_ok rfl rfl rfl rfl (.lo (by omega) (by omega)) (by omega) rfl rfl rfl rfl ?_) | (refine XG_call ?_; first | (refine XL_op tt_ok rfl rfl ?_) | (refine XL_appZ (0 : Int) (q := i) (z := m + 1 - i) tt_ok 0 rfl rfl (by omega) (by omega) (by omega) (by omega) rfl rfl rfl rfl rfl rfl rfl rfl rfl (by show (_ : Nat) * 8 ≤ _; omega) (by omega) (fun _ _ => rfl) (fun b2 c2 => ?_); rw [e1]; refine XL_fact 0 rfl (fun _ o => own_len o) fun hq3 => ?_; obtain ⟨hl3, hc3, hc4⟩ := hq3) | (refine XL_copyJ tt_ok 0 i 1 [x] rfl rfl (by show 0 + i * 1 = i * 1; omega) (by show min 1 (m + 1 - i) = 1; omega) (fun w hs => hbr.le hs.frz) (by omega) rfl rfl rfl rfl rfl ?_) | (refine XL_copyJ tt_ok 0 (i + 1) (m - i) (xs.drop i) rfl rfl (by show 0 + (i + 1) * 1 = (i + 1) * 1; omega) (by show min (m - i) (m + 1 - (i + 1)) = m - i; omega) (fun w hs => by obtain ⟨g, hg, _, hA⟩ := hs.at (k := 1) rfl; have h1 := ((own_rd hA).le hg).sub (l := i) (k := m) (cc := c) (by omega) (by omega) (by omega); rw [List.take_of_length_le (by omega)] at h1; exact h1) (by omega) rfl rfl rfl rfl rfl ?_)) | (refine XL_op tt_ok rfl rfl ?_; try (first | refine XL_int (wrap_i64 (by omega) (by omega)) ?_ | refine XL_dec_t (by omega) ?_ | refine XL_dec_f (by omega) ?_))) | (refine XD_id ?_; first | (refine XD_thaw thaw ?_; refine XD_nil ?_) | (refine XD_id ?_; ((refine XD_u rfl rfl ?_; first | refine XD_s rfl rfl rfl (XV_op tt_ok rfl) rfl ?_ | refine XD_s rfl rfl rfl (XV_slicel tt_ok rfl rfl rfl rfl (.lo (x := (i : Int) + 1) (by omega) (by omega)) (by omega) rfl rfl rfl) rfl ?_ | refine XD_s rfl rfl rfl (XV_slice tt_ok rfl rfl rfl rfl (.lo (by omega) (by omega)) rfl rfl rfl) rfl ?_)); try (refine XD_int (wrap_i64 (by omega) (by omega)) ?_)) | refine XD_m rfl rfl ?_) | (refine X_id ?_; first | (refine X_drawS (id := 11) [0, 1, 2, 3, 4, 5, 6, 7, 8] (fun | 8 => .m | _ => .s) 8 (by (repeat apply Split.blk); apply Split.keep; (repeat apply Split.blk); apply Split.keep; repeat' (exact Split.nil)) mixed (by decide +kernel) ?_; intro G hFG hM thaw; show XD _ _ _ _ _ _ [0, 1, 2, 3, 4, 5, 6, 7, 8] _ _ _) | refine X_seq ?_ | (refine X_regionN (by repeat' (first | exact .nil | apply NL.cons)) ?_) | refine X_skip ?_ | refine X_ret ?_ | refine X_cond_t rfl ?_ | refine X_cond_f rfl ?_) | (refine Y_id ?_; first | refine Y_then ?_ | refine Y_then_ret ?_ | refine Y_m ?_))
      all_goals first
        | exact Y_ret1 rfl rfl (stars_fin [0] rfl fun h hs => by rw [← hin]; exact stars_own hs) ⟨_, _, rfl, rfl⟩
        | (exfalso; omega)
        | skip
      
end Go.Proofs.Ytkcpjgdmfjhlkaa
