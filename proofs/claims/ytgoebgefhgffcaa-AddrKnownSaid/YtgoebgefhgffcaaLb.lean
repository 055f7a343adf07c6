/- AddrTables: spare, kept; the law. -/
import Derived.Test.YtgoebgefhgffcaaRb
import Derived.Test.YtgoebgefhgffcaaWb
set_option linter.unusedVariables false
namespace Go.Proofs.Ytgoebgefhgffcaa
open Go.RowKit Go.Cof

def mkz : List Sp := [⟨-7, 0⟩, ⟨-7, 1⟩, ⟨-7, 2⟩, ⟨-7, 3⟩, ⟨-7, 4⟩]
theorem mkz_at {i : Nat} (h : i < 5) : Cof.get mkz (i : Int) = ⟨-7, i⟩ := by
  match i, h with
  | 0, _ => rfl
  | 1, _ => rfl
  | 2, _ => rfl
  | 3, _ => rfl
  | 4, _ => rfl
theorem sp_get {xs ys : List Sp} {i : Nat} : Cof.get (xs ++ ys) (i : Int) = if i < xs.length then Cof.get xs i else Cof.get ys ((i - xs.length : Nat) : Int) := by
  unfold Cof.get
  rw [Int.toNat_natCast, Int.toNat_natCast, List.getD_eq_getElem?_getD, List.getD_eq_getElem?_getD, List.getD_eq_getElem?_getD]
  split
  · rw [List.getElem?_append_left (by assumption)]
  · rw [List.getElem?_append_right (by omega)]
theorem eqSp : EqE Try.prog Tt 39 encSp := EqE.ofT tt_ok [39] (by decide +kernel) (by kernel_rfl) 3 rfl fun a b => by
  show some (decide (a.p = b.p) && (decide (a.n = b.n) && true)) = _
  refine congrArg some ?_
  obtain ⟨p, n⟩ := a
  obtain ⟨p', n'⟩ := b
  by_cases h1 : p = p' <;> by_cases h2 : n = n' <;> simp [h1, h2]
set_option maxRecDepth 100000 in
set_option maxHeartbeats 4000000 in
theorem spare_spec (A : Option Addr) (m c : Nat) (xs : List Sp) (hm : m ≤ 8796093022200) : Ctr Try.prog 20 [.slice A m c] (fun h => rdS encSp h A m xs) [] (fun v L => ∃ A' c', v = .slice A' m c' ∧ m + 5 ≤ c' ∧ L = [own encSp A' (m + 5) c' (xs ++ mkz)]) := by
  refine Ctr.intro Try.func20 rfl rfl (by decide +kernel) fun F hpre => ?_
  have r1 : rdS encSp F.heap A m xs := hpre
  have hl1 := r1.1
  refine X_mem (fun _ hs => stars_new (own_nil encSp _) hs) ?_
  repeat' (first | (refine XL_id ?_; first | refine XL_nil ?_ | (refine XG_call ?_; (refine XL_appF tt_ok 0 rfl rfl r1 rfl rfl rfl rfl rfl rfl rfl (by show (_ : Nat) * 16 ≤ _; omega) (by omega) (fun _ _ => rfl) (fun A1 c1 => ?_))) | (refine XL_op tt_ok rfl rfl ?_)) | (refine X_id ?_; first | refine X_seq ?_ | (refine X_regionN (by repeat' (first | exact .nil | apply NL.cons)) ?_) | refine X_block ?_) | (refine Y_id ?_; refine Y_then ?_))
  refine X_loopD3 [0] (fun (i : Nat) (A1 : Option Addr) (c1 : Nat) => [(4, .int .i64 i), (3, .slice A1 (m + i) c1)]) (fun i A1 c1 => [own encSp A1 (m + i) c1 (xs ++ mkz.take i)]) (fun i A1 c1 => i ≤ 5) (fun i _ _ => 5 - i) 0 A1 c1 rfl (Nat.zero_le _) (by refine And.intro rfl (And.intro ?_ trivial); show some (Value.slice A1 (0 + m) c1) = some (Value.slice A1 (m + 0) c1); rw [Nat.zero_add, Nat.add_zero]) (fun h hs => stars_conv (L := [own encSp A1 (0 + m) c1 ([] ++ xs)]) (k := 0) rfl (fun h o => by rw [Nat.zero_add, List.nil_append] at o; rw [List.take_zero, List.append_nil]; exact o) hs) ?_
  intro i A1 c1 hi
  have hi : i ≤ 5 := hi
  by_cases hlt : i < 5
  · have e : mkz.take (i + 1) = mkz.take i ++ [⟨-7, i⟩] := by rw [take_snoc' mkz i (by exact hlt), mkz_at hlt]
    repeat' (first | (refine XL_id ?_; first | refine XL_nil ?_ | (refine XG_build ?_; (refine XL_build tt_ok rfl rfl rfl rfl rfl rfl rfl ?_; refine XL_aggN (by repeat' (first | exact .nil | apply NL.cons)) ?_)) | (refine XG_call ?_; (refine XL_app1 tt_ok 1 0 (⟨-7, i⟩ : Sp) rfl rfl rfl rfl rfl rfl rfl rfl rfl rfl rfl (by show (_ : Nat) * 16 ≤ _; omega) (by omega) (fun _ _ => rfl) (fun A2 c2 => ?_))) | (refine XG_lit ?_; (refine XL_lit tt_ok rfl rfl rfl rfl rfl rfl rfl rfl rfl (fun _ => rfl) (fun b => ?_); refine XL_nB (by repeat' (first | exact .nil | apply NL.cons)) ?_)) | (refine XL_op tt_ok rfl rfl ?_; try (first | refine XL_int (wrap_i64 (by omega) (by omega)) ?_ | refine XL_dec_t (by omega) ?_))) | (refine X_id ?_; first | refine X_seq ?_ | (refine X_regionN (by repeat' (first | exact .nil | apply NL.cons)) ?_) | refine X_skip ?_ | refine X_block ?_ | refine X_cond_t rfl ?_) | (refine Y_id ?_; first | refine Y_then ?_ | refine Y_block_normal ?_))
    exact Y_again (i + 1, A2, c2) fun _ _ hf hs => ⟨by show i + 1 ≤ 5; omega, by show 5 - (i + 1) < 5 - i; omega, hf.sub (by (repeat' (first | exact trivial | refine And.intro rfl ?_)); done), hs.imp fun h hs => by show stars [own encSp A2 (m + (i + 1)) c2 (xs ++ mkz.take (i + 1))] h; rw [e, ← List.append_assoc]; exact stars_only [1] rfl h hs⟩
  · obtain rfl : i = 5 := by omega
    refine X_fact 0 rfl (fun _ o => own_len o) fun hlen => ?_
    repeat' (first | (refine XL_id ?_; first | refine XL_nil ?_ | (refine XG_slice ?_; refine XL_slice0 tt_ok rfl rfl rfl (.hi (by omega) (by omega)) rfl rfl rfl rfl ?_) | (refine XL_op tt_ok rfl rfl ?_; try (refine XL_dec_f (by omega) ?_))) | (refine X_id ?_; first | refine X_seq ?_ | (refine X_regionN (by repeat' (first | exact .nil | apply NL.cons)) ?_) | refine X_ret ?_ | refine X_exit ?_ | refine X_cond_f rfl ?_) | (refine Y_id ?_; first | refine Y_then ?_ | refine Y_then_exit ?_ | refine Y_block_hit ?_))
    exact Y_ret1 rfl rfl (stars_only [0] rfl) ⟨A1, c1, rfl, hlen.2.1, rfl⟩
set_option maxRecDepth 100000 in
set_option maxHeartbeats 4000000 in
theorem kept_spec (A B : Option Addr) (m c m' c' : Nat) (xs : List Sp) (hm : m' ≤ 8796093022200) (hmc : m' + 5 ≤ c) : FnC Try.prog 23 [.slice A m c, .slice B m' c'] (fun h => rdS encSp h A (m' + 5) (xs ++ mkz) ∧ rdS encSp h B m' xs) (.bool true) := by
  refine Ctr.intro Try.func23 rfl rfl (by decide +kernel) fun F hpre => ?_
  have r1 : rdS encSp F.heap A (m' + 5) (xs ++ mkz) := hpre.1
  have r2 : rdS encSp F.heap B m' xs := hpre.2
  have hl2 := r2.1
  have e5 : ((m' : Int) + 5).toNat = m' + 5 := by omega
  repeat' (first | (refine XL_id ?_; first | refine XL_nil ?_ | (refine XG_slice ?_; (refine XL_slice0 tt_ok rfl rfl rfl (.hi (by omega) (by omega)) rfl rfl rfl rfl ?_; rw [e5])) | (refine XL_op tt_ok rfl rfl ?_; try (refine XL_int (wrap_i64 (by omega) (by omega)) ?_))) | (refine X_id ?_; first | refine X_seq ?_ | (refine X_regionN (by repeat' (exact .nil)) ?_) | refine X_block ?_) | (refine Y_id ?_; refine Y_then ?_))
  refine X_loopD [1, 5] (fun (i : Nat) => [(6, .int .i64 i)]) (fun _ => []) (fun i => i ≤ m' + 5) (fun i => m' + 5 - i) 0 rfl (Nat.zero_le _) (by (repeat' (first | exact trivial | refine And.intro rfl ?_)); done) (fun _ h => h) ?_
  intro i hi
  have hi : i ≤ m' + 5 := hi
  by_cases hlt : i < m' + 5
  · have hg := sp_get (xs := xs) (ys := mkz) (i := i)
    by_cases hlo : i < m'
    · rw [if_pos (by omega)] at hg
      repeat' (first | (refine XL_id ?_; first | refine XL_nil ?_ | (refine XL_op tt_ok rfl rfl ?_; try (first | refine XL_int (wrap_i64 (by omega) (by omega)) ?_ | refine XL_dec_t (by omega) ?_))) | (refine XD_id ?_; first | (refine XD_thaw thaw ?_; refine XD_nil ?_) | refine XD_no rfl rfl rfl rfl rfl rfl ?_ | refine XD_nou rfl rfl rfl rfl rfl ?_ | (refine XD_id ?_; (first | (refine XD_gL rfl ?_; refine XD_sy rfl rfl rfl rfl rfl (XV_elW tt_ok rfl (rdS.le (by assumption) hFG) rfl (by omega) (by omega) rfl rfl rfl) rfl ?_) | (refine XD_gI rfl ?_; refine XD_sy rfl rfl rfl rfl rfl (XV_idx tt_ok rfl rfl rfl rfl rfl (rdS.le (by assumption) hFG) (by omega) (by omega)) rfl ?_) | (refine XD_u rfl rfl ?_; refine XD_s rfl rfl rfl (XV_op tt_ok rfl) rfl ?_) | (refine XD_g rfl rfl ?_; first | refine XD_sy rfl rfl rfl rfl rfl (XV_op tt_ok rfl) rfl ?_ | refine XD_sy rfl rfl rfl rfl rfl (XV_neq eqSp rfl rfl) rfl ?_)); try (first | refine XD_dec_t (by omega) ?_ | refine XD_dec_f (by omega) ?_ | refine XD_dec (fun _ => ?_) (fun _ => ?_)))) | (refine X_id ?_; first | (refine X_drawS (id := 5) [0, 1, 2, 3, 4, 5, 6, 7, 8, 9, 10, 11, 12, 13, 14, 15, 16, 17, 18, 19, 20, 21, 22, 23, 24, 25, 26, 27, 28, 29, 30, 31, 32] (fun _ => .s) 8 (by repeat' (exact Split.nil)) mixed (by decide +kernel) ?_; intro G hFG hM thaw; show XD _ _ _ _ _ _ [0, 1, 2, 3, 4, 5, 6, 7, 8, 9, 10, 11, 12, 13, 14, 15, 16, 17, 18, 19, 20, 21, 22, 23, 24, 25, 26, 27, 28, 29, 30, 31, 32] _ _ _) | refine X_seq ?_ | (refine X_regionN (by repeat' (exact .nil)) ?_) | refine X_skip ?_ | refine X_ret ?_ | refine X_block ?_ | refine X_cond_t rfl ?_ | refine X_cond_f rfl ?_) | (refine Y_id ?_; first | refine Y_then ?_ | refine Y_then_ret ?_ | refine Y_block_normal ?_ | refine Y_block_ret ?_))
      all_goals first
        | exact Y_again (i + 1) fun _ _ hf hs => ⟨by show i + 1 ≤ m' + 5; omega, by show m' + 5 - (i + 1) < m' + 5 - i; omega, hf.sub (by (repeat' (first | exact trivial | refine And.intro rfl ?_)); done), hs.imp fun _ _ => trivial⟩
        | exact absurd hg (by assumption)
        | skip
      
    · rw [if_neg (by omega), mkz_at (by omega)] at hg
      have e : ((i - xs.length : Nat) : Int) = (i : Int) - m' := by omega
      rw [e] at hg
      repeat' (first | (refine XL_id ?_; first | refine XL_nil ?_ | (refine XL_op tt_ok rfl rfl ?_; try (first | refine XL_int (wrap_i64 (by omega) (by omega)) ?_ | refine XL_dec_t (by omega) ?_))) | (refine XD_id ?_; first | (refine XD_thaw thaw ?_; refine XD_nil ?_) | refine XD_no rfl rfl rfl rfl rfl rfl ?_ | (refine XD_id ?_; (first | (refine XD_gL rfl ?_; refine XD_sy rfl rfl rfl rfl rfl (XV_elW tt_ok rfl (rdS.le (by assumption) hFG) rfl (by omega) (by omega) rfl rfl rfl) rfl ?_) | (refine XD_gI rfl ?_; refine XD_sy rfl rfl rfl rfl rfl (XV_idx tt_ok rfl rfl rfl rfl rfl (rdS.le (by assumption) hFG) (by omega) (by omega)) rfl ?_) | (refine XD_u rfl rfl ?_; refine XD_s rfl rfl rfl (XV_op tt_ok rfl) rfl ?_) | (refine XD_g rfl rfl ?_; first | refine XD_sy rfl rfl rfl rfl rfl (XV_op tt_ok rfl) rfl ?_ | refine XD_sy rfl rfl rfl rfl rfl (XV_build tt_ok rfl rfl rfl rfl rfl rfl) rfl ?_ | refine XD_sy rfl rfl rfl rfl rfl (XV_neq (a := Cof.get (xs ++ mkz) i) (b := (⟨-7, (i : Int) - m'⟩ : Sp)) eqSp rfl rfl) rfl ?_)); try (first | refine XD_int (wrap_i64 (by omega) (by omega)) ?_ | refine XD_dec_t (by omega) ?_ | refine XD_dec_f (by omega) ?_ | refine XD_dec (fun _ => ?_) (fun _ => ?_)))) | (refine X_id ?_; first | (refine X_drawS (id := 5) [0, 1, 2, 3, 4, 5, 6, 7, 8, 9, 10, 11, 12, 13, 14, 15, 16, 17, 18, 19, 20, 21, 22, 23, 24, 25, 26, 27, 28, 29, 30, 31, 32] (fun _ => .s) 8 (by repeat' (exact Split.nil)) mixed (by decide +kernel) ?_; intro G hFG hM thaw; show XD _ _ _ _ _ _ [0, 1, 2, 3, 4, 5, 6, 7, 8, 9, 10, 11, 12, 13, 14, 15, 16, 17, 18, 19, 20, 21, 22, 23, 24, 25, 26, 27, 28, 29, 30, 31, 32] _ _ _) | refine X_seq ?_ | (refine X_regionN (by repeat' (exact .nil)) ?_) | refine X_skip ?_ | refine X_ret ?_ | refine X_block ?_ | refine X_cond_t rfl ?_ | refine X_cond_f rfl ?_) | (refine Y_id ?_; first | refine Y_then ?_ | refine Y_then_ret ?_ | refine Y_block_normal ?_ | refine Y_block_ret ?_))
      all_goals first
        | exact Y_again (i + 1) fun _ _ hf hs => ⟨by show i + 1 ≤ m' + 5; omega, by show m' + 5 - (i + 1) < m' + 5 - i; omega, hf.sub (by (repeat' (first | exact trivial | refine And.intro rfl ?_)); done), hs.imp fun _ _ => trivial⟩
        | exact absurd hg (by assumption)
        | skip
      
  · repeat' (first | (refine XL_id ?_; first | refine XL_nil ?_ | (refine XL_op tt_ok rfl rfl ?_; try (refine XL_dec_f (by omega) ?_))) | (refine X_id ?_; first | refine X_seq ?_ | (refine X_regionN (by repeat' (exact .nil)) ?_) | refine X_ret ?_ | refine X_exit ?_ | refine X_cond_f rfl ?_) | (refine Y_id ?_; first | refine Y_then ?_ | refine Y_then_exit ?_ | refine Y_block_hit ?_))
    exact Y_fn1 rfl rfl rfl
theorem sp_rd {A : Option Addr} {m c : Nat} {l : List Sp} (hm : m = l.length) (k : Nat) {L : List HProp} (hk : L[k]? = some (own encSp A (m + 5) c (l ++ mkz))) {g : Hp} (h : stars L g) : rdS encSp g A m l := by
  have := (rd_at k hk h).take m (by omega)
  subst hm
  rwa [List.take_left] at this
set_option maxRecDepth 100000 in
set_option maxHeartbeats 8000000 in
theorem addrTables_walk (A : Option Addr) (m c : Nat) (l : List Sp) (hm : m ≤ 8796093022200) (hl : ∀ s ∈ l, i64In s.p ∧ i64In s.n) : FnC Try.prog 5 [.slice A m c] (fun h => rdS encSp h A m l) (.bool true) := by
  refine Ctr.intro Try.func5 rfl rfl (by decide +kernel) fun F hpre => ?_
  have r1 : rdS encSp F.heap A m l := hpre
  have hlen := r1.1
  have hr := rtables_spec A m c l hl (by omega)
  obtain ⟨T0, hT0⟩ : ∃ T0, (tabsF l).1 = T0 := ⟨_, rfl⟩
  obtain ⟨T1, hT1⟩ : ∃ T1, (tabsF l).2 = T1 := ⟨_, rfl⟩
  rw [hT0, hT1] at hr
  have ht : ∀ (B : Option Addr) (q : Nat), FnC Try.prog 21 [.slice B m q] (fun h => rdS encSp h B m l) (pr2 (iV T0) (iV T1)) := fun B q => by
    have h := tables_spec B m q l hl (by omega)
    rw [hT0, hT1] at h; exact h
  repeat' (first | (refine XL_id ?_; first | refine XL_nil ?_ | refine XL_guard_yes rfl rfl rfl ?_ | (refine XG_call ?_; first | (refine XL_callK [] (spare_spec A m c l hm) rfl rfl (fun _ => rfl) (fun g hg _ => r1.le hg) (fun u L hv => ?_); obtain ⟨As, cs, rfl, hcs, rfl⟩ := hv) | refine XL_fn (ht _ _) rfl rfl (fun g hg hL => sp_rd hlen 0 rfl hL) ?_ | refine XL_fn hr rfl rfl (fun g hg hL => r1.le hg) ?_ | refine XL_fn (kept_spec As A m cs m c l hm hcs) rfl rfl (fun g hg hL => ⟨rd_at 0 rfl hL, r1.le hg⟩) ?_ | refine XL_fn works_spec rfl rfl (fun _ _ _ => trivial) ?_) | (refine XL_op tt_ok rfl rfl ?_; try (refine XL_dec_t (by omega) ?_))) | (refine X_id ?_; first | refine X_seq ?_ | (refine X_regionN (by repeat' (first | exact .nil | apply NL.cons)) ?_) | refine X_ret ?_) | (refine Y_id ?_; refine Y_then ?_))
  all_goals first
    | exact Y_fn1 rfl rfl rfl
    | (exfalso; rename_i h9; exact absurd rfl h9)
    | skip
  
end Go.Proofs.Ytgoebgefhgffcaa
