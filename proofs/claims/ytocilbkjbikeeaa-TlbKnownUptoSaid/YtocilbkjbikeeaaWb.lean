/- Walk of the library's Reverse. -/
import Derived.Test.YtocilbkjbikeeaaWa
set_option linter.unusedVariables false
namespace Go.Proofs.Ytocilbkjbikeeaa
open Go.RowKit Go.Cof

theorem reverse_of {xs ys : List Tr} {m i : Nat} (hx : m = xs.length) (hy : ys.length = m) (hi : m ≤ 2 * i + 1) (h : ∀ k : Nat, k < m → Cof.get ys k = if k < i ∨ m ≤ k + i then Cof.get xs ((m - 1 - k : Nat) : Int) else Cof.get xs k) : ys = xs.reverse := by
  refine get_ext (by rw [List.length_reverse]; omega) fun k hk => ?_
  rw [h k (by omega), get_getElem (xs := xs.reverse) (i := k) (by rw [List.length_reverse]; omega), List.getElem_reverse]
  have e : xs[xs.length - 1 - k]'(by omega) = Cof.get xs ((m - 1 - k : Nat) : Int) := by
    subst hx
    exact (get_getElem (by omega)).symm
  rw [e]
  by_cases hc : k < i ∨ m ≤ k + i
  · rw [if_pos hc]
  · rw [if_neg hc]
    congr 1
    omega
theorem reverse_step {xs ys : List Tr} {m i : Nat} (hy : ys.length = m) (hi : 2 * i + 1 < m) (h : ∀ k : Nat, k < m → Cof.get ys k = if k < i ∨ m ≤ k + i then Cof.get xs ((m - 1 - k : Nat) : Int) else Cof.get xs k) {a b : Nat} (ha : a = i) (hb : b = m - 1 - i) {u v : Tr} (hu : u = Cof.get ys ((m - 1 - i : Nat) : Int)) (hv : v = Cof.get ys (i : Int)) :
    ∀ k : Nat, k < m → Cof.get ((ys.set a u).set b v) k = if k < i + 1 ∨ m ≤ k + (i + 1) then Cof.get xs ((m - 1 - k : Nat) : Int) else Cof.get xs k := by
  intro k hk
  subst ha hb hu hv
  rw [get_set (by rw [List.length_set]; omega)]
  by_cases h1 : m - 1 - a = k
  · rw [if_pos h1, if_pos (by omega), h a (by omega), if_neg (by omega)]
    congr 1
    omega
  · rw [if_neg h1, get_set (by omega)]
    by_cases h2 : a = k
    · rw [if_pos h2, if_pos (by omega), h _ (by omega), if_neg (by omega)]
      congr 1
      omega
    · rw [if_neg h2, h k hk]
      by_cases hc : k < a ∨ m ≤ k + a
      · rw [if_pos hc, if_pos (by omega)]
      · rw [if_neg hc, if_neg (by omega)]
set_option maxHeartbeats 8000000 in
theorem reverse_spec (A : Option Addr) (m c : Nat) (xs : List Tr) (hm : m ≤ 100000) :
    Ctr Try.prog 35 [.slice A m c] (fun _ => True) [own encTr A m c xs] (fun v L => v = .tuple #[] ∧ L = [own encTr A m c xs.reverse]) := by
  refine Ctr.intro Try.func35 rfl rfl (by decide +kernel) fun F hpre => ?_
  refine X_fact 0 rfl (fun _ o => own_len o) fun hlen => ?_
  obtain ⟨hl, hc1, hc2⟩ := hlen
  repeat' (first | (refine XL_id ?_; first | refine XL_nil ?_ | (refine XL_op tt_ok rfl rfl ?_; try (refine XL_int (wrap_i64 (by omega) (by omega)) ?_))) | (refine X_id ?_; first | refine X_seq ?_ | (refine X_regionN (by repeat' (first | exact .nil | apply NL.cons)) ?_) | refine X_block ?_) | (refine Y_id ?_; refine Y_then ?_))
  refine X_loopD2 [0] (fun (i : Nat) (ys : List Tr) => [(2, .int .i64 i), (3, .int .i64 ((m : Int) - 1 - i))]) (fun _ ys => [own encTr A m c ys]) (fun i ys => 2 * i ≤ m ∧ ys.length = m ∧ ∀ k : Nat, k < m → Cof.get ys k = if k < i ∨ m ≤ k + i then Cof.get xs ((m - 1 - k : Nat) : Int) else Cof.get xs k) (fun i _ => m - i) 0 xs rfl ⟨by omega, hl.symm, fun k hk => by rw [if_neg (by omega)]⟩ (by rw [show (m : Int) - 1 - ((0 : Nat) : Int) = (m : Int) - 1 from by omega]; exact (by (repeat' (first | exact trivial | refine And.intro rfl ?_)); done)) (fun _ h => h) ?_
  intro i ys hi
  obtain ⟨hi, hyl, hyk⟩ := hi
  by_cases hlt : 2 * i + 1 < m
  · refine X_fact 0 rfl (fun _ o => own_some o (by omega)) fun hq2 => ?_
    obtain ⟨b, rfl⟩ := hq2
    have ej : ((m - 1 - i : Nat) : Int) = (m : Int) - 1 - i := by omega
    have hst := reverse_step (xs := xs) hyl hlt hyk (a := (i : Int).toNat) (b := ((m : Int) - 1 - i).toNat) (by omega) (by omega) (u := Cof.get ys (((m : Int) - 1 - i).toNat : Int)) (v := Cof.get ys ((i : Int).toNat : Int)) (by congr 1; omega) (by congr 1)
    repeat' (first | (refine XL_id ?_; first | refine XL_nil ?_ | (refine XL_ldW (i := ((m : Int) - 1 - i).toNat) tt_ok 0 rfl rfl (by show 0 + _ * 6 = _ * 6; omega) (by omega) rfl rfl rfl rfl ?_) | (refine XL_ldW (i := (i : Int).toNat) tt_ok 0 rfl rfl (by show 0 + _ * 6 = _ * 6; omega) (by omega) rfl rfl rfl rfl ?_) | (refine XG_store ?_; first | (refine XL_putW (i := (i : Int).toNat) tt_ok 0 (Cof.get ys (((m : Int) - 1 - i).toNat : Int)) rfl rfl (by show 0 + _ * 6 = _ * 6; omega) rfl rfl rfl (by omega) ?_) | (refine XL_putW (i := ((m : Int) - 1 - i).toNat) tt_ok 0 (Cof.get ys ((i : Int).toNat : Int)) rfl rfl (by show 0 + _ * 6 = _ * 6; omega) rfl rfl rfl (by omega) ?_)) | (refine XL_op tt_ok rfl rfl ?_; try (first | refine XL_int (wrap_i64 (by omega) (by omega)) ?_ | refine XL_dec_t (by omega) ?_))) | (refine XD_id ?_; first | refine XD_nil ?_ | (refine XD_id ?_; (first | (refine XD_uI rfl ?_; refine XD_s rfl rfl rfl (XV_idxl tt_ok rfl rfl rfl rfl rfl (by omega) (by omega)) rfl ?_) | (refine XD_u rfl rfl ?_; refine XD_s rfl rfl rfl (XV_op tt_ok rfl) rfl ?_))) | refine XD_m rfl rfl ?_ | (refine XD_thaw thaw ?_; refine XD_l rfl rfl ?_)) | (refine X_id ?_; first | (refine X_draw2 (id := 3) ⟨[0, 1, 2, 3, 4, 5, 6, 8, 9, 10], 7, [11, 12, 13, 14, 15]⟩ ⟨[0, 1, 2, 3, 4, 5, 6, 8, 9, 10], 11, [7, 12, 13, 14, 15]⟩ (fun | 7 => .m | 11 => .m | 13 => .m | 15 => .l | _ => .s) 8 (by (repeat apply Split.blk); apply Split.keep; repeat' (exact Split.nil)) mixed (by decide +kernel) ?_ ?_ <;> (intro G hFG hM thaw; (first | show XD _ _ _ _ _ _ [0, 1, 2, 3, 4, 5, 6, 8, 9, 10, 7, 11, 12, 13, 14, 15] _ _ _ | show XD _ _ _ _ _ _ [0, 1, 2, 3, 4, 5, 6, 8, 9, 10, 11, 7, 12, 13, 14, 15] _ _ _))) | refine X_seq ?_ | (refine X_regionN (by repeat' (first | exact .nil | apply NL.cons)) ?_) | refine X_skip ?_ | refine X_block ?_ | refine X_cond_t rfl ?_) | (refine Y_id ?_; first | refine Y_then ?_ | refine Y_block_normal ?_ | refine Y_m ?_ | refine Y_l ?_))
    all_goals first
      | exact Y_again (i + 1, (ys.set (i : Int).toNat (Cof.get ys (((m : Int) - 1 - i).toNat : Int))).set ((m : Int) - 1 - i).toNat (Cof.get ys ((i : Int).toNat : Int))) fun _ _ hf hs => ⟨⟨by show 2 * (i + 1) ≤ m; omega, by rw [List.length_set, List.length_set]; exact hyl, hst⟩, by show m - (i + 1) < m - i; omega, hf.sub (by rw [show (m : Int) - 1 - ((i + 1 : Nat) : Int) = (m : Int) - 1 - i - 1 from by omega]; exact (by (repeat' (first | exact trivial | refine And.intro rfl ?_)); done)), hs⟩
      | skip
    
  · have hrev := reverse_of hl hyl (by omega) hyk
    subst hrev
    repeat' (first | (refine XL_id ?_; first | refine XL_nil ?_ | (refine XL_op tt_ok rfl rfl ?_; try (refine XL_dec_f (by omega) ?_))) | (refine X_id ?_; first | refine X_seq ?_ | (refine X_regionN (by repeat' (first | exact .nil | apply NL.cons)) ?_) | refine X_exit ?_ | refine X_cond_f rfl ?_) | (refine Y_id ?_; first | refine Y_then ?_ | refine Y_then_exit ?_ | refine Y_block_hit ?_))
    exact Y_end0 rfl (fun _ h => h) ⟨rfl, rfl⟩
end Go.Proofs.Ytocilbkjbikeeaa
