/- Walk of the program's New. -/
import Derived.Test.YtookjknlfkmemaaWb
set_option linter.unusedVariables false
namespace Go.Proofs.Ytookjknlfkmemaa
open Go.RowKit Go.Cof

theorem new_bad (n : Int) (h : n < 1 ∨ 4096 < n) : FnC Try.prog 9 [.int .i64 n] (fun _ => True) (.tuple #[.pointer none, .int .i64 2]) := by
  refine Ctr.intro Try.func9 rfl rfl (by decide +kernel) fun F hpre => ?_
  repeat' (first | (refine X_seq ?_) | (refine X_region ?_) | (refine XL_nil ?_) | (refine Y_then ?_) | (refine Y_then_ret ?_) | (refine X_ret ?_) | (refine X_cond_t rfl ?_) | (refine XL_guard_yes rfl rfl rfl ?_) | (refine XL_guard_no rfl rfl rfl rfl rfl ?_) | (refine XL_op tt_ok rfl rfl ?_; try (first | (refine XL_dec_t (by omega) ?_) | (refine XL_dec (fun _ => ?_) (fun _ => ?_)))))
  all_goals exact Y_fn2 rfl rfl rfl rfl

theorem sl_eq {g a b c d e f : Nat} (h1 : a = b) (h2 : c = d) (h3 : e = f) : [Value.slice (some ⟨g, a, none⟩) c e] = encSl.enc ⟨g, b, d, f⟩ := by subst h1 h2 h3; rfl
theorem pagesOf_succ (g i : Nat) : pagesOf g (i + 1) = pagesOf g i ++ [⟨g, i * 256, 256, 256⟩] := by simp [pagesOf, List.range_succ]
theorem new_ok (n : Int) (h1 : 1 ≤ n) (h2 : n ≤ 4096) : Ctr Try.prog 9 [.int .i64 n] (fun _ => True) [] (fun v L => ∃ p, v = .tuple #[.pointer (some ⟨p, 0, none⟩), .int .i64 0] ∧ L = [isMem p (List.replicate (n.toNat * 256) 0)]) := by
  have e0 : (n * 256).toNat = n.toNat * 256 := by omega
  refine Ctr.intro Try.func9 rfl rfl (by decide +kernel) fun F hpre => ?_
  repeat' (first | (refine X_seq ?_) | (refine X_region ?_) | (refine XL_nil ?_) | (refine Y_then ?_) | (refine X_skip ?_) | (refine X_block ?_) | (refine X_cond_f rfl ?_) | (refine XL_guard_yes rfl rfl rfl ?_) | (refine XL_op tt_ok rfl rfl ?_; try (first | (refine XL_int (wrap_i64 (by omega) (by omega)) ?_) | (refine XL_dec_f (by omega) ?_))) | (refine XL_box rfl (fun _ => rfl) (fun _ => ?_)) | (refine XL_build tt_ok rfl rfl rfl rfl rfl rfl rfl ?_) | (refine XL_make (encI .u8) (0 : Int) tt_ok rfl rfl rfl rfl rfl rfl rfl rfl (by omega) (by omega) (by show (1 : Int) * _ ≤ _; omega) (by omega) (fun _ => rfl) (fun g => ?_)))
  rename_i p
  refine X_loop3 (fun (i : Nat) (A : Option Addr) (c : Nat) => [(0, .int .i64 n), (4, .pointer (some ⟨p, 0, none⟩)), (18, .int .i64 i), (17, .int .i64 n)])
    (fun i A c => [own encSl A i c (pagesOf g i), blk p [.slice (some ⟨g, 0, none⟩) (n * 256).toNat (n * 256).toNat, .slice A i c] 59, own (encI .u8) (some ⟨g, 0, none⟩) (n * 256).toNat (n * 256).toNat (List.replicate (n * 256).toNat 0)])
    (fun i _ _ => i ≤ n.toNat) (fun i _ _ => n.toNat - i) 0 none 0 (Nat.zero_le _) (by repeat' (first | exact trivial | refine And.intro rfl ?_)) (fun _ h => stars_new (own_nil _ _) h) ?_
  intro i A c hi
  have hi : i ≤ n.toNat := hi
  repeat' (first | (refine X_seq ?_) | (refine X_region ?_) | (refine XL_nil ?_) | (refine Y_then ?_) | (refine Y_then_exit ?_) | (refine Y_block_hit ?_) | (refine X_skip ?_) | (refine X_ret ?_) | (refine X_exit ?_) | (refine X_block ?_) | (refine X_cond_t rfl ?_) | (refine X_cond_f rfl ?_) | (refine XL_op tt_ok rfl rfl ?_; try ((refine XL_dec (fun _ => ?_) (fun _ => ?_)))))
  · have hi2 : (i : Int) < n := by assumption
    refine X_draw (List.range 23) (fun | 18 => .m | 19 => .m | 22 => .l | _ => .s) (fun _ => false) 2 [1] rfl mixed (by decide +kernel) ?_
    intro G hFG hM thaw
    have hb := stars_blk hM
    show XD _ _ _ _ _ _ [0, 1, 2, 3, 4, 5, 6, 7, 8, 9, 10, 11, 12, 13, 14, 15, 16, 17, 18, 19, 20, 21, 22] _ _ _
    repeat' (first | (refine XD_nil ?_) | (refine XD_s rfl rfl rfl (XV_op tt_ok rfl) rfl ?_; try ((refine XD_int (wrap_i64 (by omega) (by omega)) ?_))) | (refine XD_s rfl rfl rfl (XV_load tt_ok rfl (by assumption) rfl rfl rfl) rfl ?_) | (refine XD_s rfl rfl rfl (XV_slicel tt_ok rfl rfl rfl rfl (.lohimx (by omega) (by omega) (by omega) (by omega)) (by omega) rfl rfl rfl) rfl ?_) | (refine XD_m rfl rfl ?_; refine XL_lit tt_ok rfl rfl rfl rfl rfl rfl rfl rfl rfl (fun _ => rfl) (fun b => ?_); refine XL_nil ?_; refine Y_m ?_) | (refine XD_m rfl rfl ?_; refine XL_app1 tt_ok 1 0 (⟨g, i * 256, 256, 256⟩ : Sl) rfl rfl (sl_eq (by omega) (by omega) (by omega)) rfl rfl rfl rfl rfl rfl rfl rfl (by show (_ : Nat) * 24 ≤ _; omega) (by omega) (fun _ _ => rfl) (fun A' c2 => ?_); refine XL_nil ?_; refine Y_m ?_) | (refine XD_thaw thaw ?_; refine XD_l rfl rfl ?_; refine XL_store tt_ok 3 rfl rfl rfl rfl rfl rfl rfl rfl ?_; refine XL_nil ?_; refine Y_l ?_))
    repeat' (first | (refine X_region ?_) | (refine XL_nil ?_) | (refine Y_then ?_) | (refine Y_block_normal ?_) | (refine XL_op tt_ok rfl rfl ?_; try ((refine XL_int (wrap_i64 (by omega) (by omega)) ?_))))
    refine Y_again (i + 1, A', c2) fun _ _ hf hs => ⟨by show i + 1 ≤ n.toNat; omega, by show n.toNat - (i + 1) < n.toNat - i; omega, hf.sub (by repeat' (first | exact trivial | refine And.intro rfl ?_)), hs.imp fun h hs => ?_⟩
    show stars [own encSl A' (i + 1) c2 (pagesOf g (i + 1)), _, _] h
    rw [pagesOf_succ]
    exact stars_only [1, 2, 1] rfl h hs
  · have hi2 : i = n.toNat := by omega
    subst hi2
    refine Y_ret2 rfl rfl rfl (fun h hs => ?_) ⟨p, rfl, rfl⟩
    obtain ⟨q, rfl⟩ : ∃ q, A = some ⟨q, 0, none⟩ := by
      obtain ⟨_, _, _, _, _, hA, _⟩ := hs
      exact own_some hA (by omega)
    refine stars_fin [1, 1, 0] rfl (fun h hs => ?_) h hs
    rw [e0] at hs
    exact ⟨⟨g, q, c, n.toNat, n.toNat * 256⟩, ⟨Mem.zero (by omega) (by omega), by simp, by show n.toNat = n.toNat * 256 / 256; omega⟩, hs⟩
end Go.Proofs.Ytookjknlfkmemaa
