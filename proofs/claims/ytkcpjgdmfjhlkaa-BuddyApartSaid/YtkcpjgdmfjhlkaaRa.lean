/- The document's answer: New, open, Free, Whole, Same. -/
import Derived.Test.YtkcpjgdmfjhlkaaWd
set_option linter.unusedVariables false
namespace Go.Proofs.Ytkcpjgdmfjhlkaa
open Go.RowKit Go.Cof

abbrev rbB (r ob tb n : Nat) : HProp := blk r [.slice (some ⟨ob, 0, none⟩) n n, .slice (some ⟨tb, 0, none⟩) n n] 60
abbrev rbM (r : Nat) (op : List Bool) (tl : List Int) (x : Nat × Nat) : List HProp := [rbB r x.1 x.2 op.length, own encB (some ⟨x.1, 0, none⟩) op.length op.length op, own encN (some ⟨x.2, 0, none⟩) op.length op.length tl]
def isRb (r : Nat) (op : List Bool) (tl : List Int) : HProp := fun h => ∃ x : Nat × Nat, tl.length = op.length ∧ stars (rbM r op tl x) h
theorem isRb_mk {r ob tb m : Nat} {op : List Bool} {tl : List Int} (hm : m = op.length) (h : tl.length = op.length) : ∀ g, stars [rbB r ob tb m, own encB (some ⟨ob, 0, none⟩) m m op, own encN (some ⟨tb, 0, none⟩) m m tl] g → isRb r op tl g := fun g hs => ⟨(ob, tb), h, by subst hm; exact hs⟩
theorem rnew_bad (n : Int) (h : n < 0 ∨ 4096 < n) : FnC Try.prog 8 [iV n] (fun _ => True) (.tuple #[.pointer none, iV 2]) := by
  refine Ctr.intro Try.func8 rfl rfl (by decide +kernel) fun F hpre => ?_
  repeat' (first | (refine XL_id ?_; first | refine XL_nil ?_ | refine XL_guard_yes rfl rfl rfl ?_ | refine XL_guard_no rfl rfl rfl rfl rfl ?_ | (refine XL_op tt_ok rfl rfl ?_; try (first | refine XL_dec_t (by omega) ?_ | refine XL_dec (fun _ => ?_) (fun _ => ?_)))) | (refine X_id ?_; first | refine X_seq ?_ | (refine X_regionN (by repeat' (exact .nil)) ?_) | refine X_ret ?_ | refine X_cond_t rfl ?_) | (refine Y_id ?_; first | refine Y_then ?_ | refine Y_then_ret ?_))
  all_goals first
    | exact Y_fn2 rfl rfl rfl rfl
    | (exfalso; omega)
    | skip
  
theorem rep_set {n i : Nat} (h : i < n) : ((List.replicate i true ++ List.replicate (n - i) false).set i true) = List.replicate (i + 1) true ++ List.replicate (n - (i + 1)) false := by
  rw [List.set_append, if_neg (by rw [List.length_replicate]; omega), List.length_replicate, Nat.sub_self]
  obtain ⟨k, hk⟩ : ∃ k, n - i = k + 1 := ⟨n - i - 1, by omega⟩
  rw [hk, List.replicate_succ, List.set_cons_zero, show n - (i + 1) = k by omega, List.replicate_succ', List.append_assoc]; rfl
set_option maxHeartbeats 4000000 in
theorem rnew_spec (n : Nat) (hn : n ≤ 4096) : Ctr Try.prog 8 [iV n] (fun _ => True) [] (fun v L => ∃ r, v = .tuple #[ptr r, iV 0] ∧ L = [isRb r (allO n) (List.replicate n 0)]) := by
  refine Ctr.intro Try.func8 rfl rfl (by decide +kernel) fun F hpre => ?_
  repeat' (first | (refine XL_id ?_; first | refine XL_nil ?_ | refine XL_guard_yes rfl rfl rfl ?_ | (refine XG_box ?_; (refine XL_box rfl (fun _ => rfl) (fun rb => ?_); refine XL_nB (by repeat' (first | exact .nil | apply NL.cons)) ?_)) | (refine XG_make ?_; first | (refine XL_make encN (0 : Int) tt_ok rfl rfl rfl rfl rfl rfl rfl rfl (by omega) (by omega) (by show (8 : Int) * _ ≤ _; omega) (by omega) (fun _ => rfl) (fun tb => ?_)) | (refine XL_make encB false tt_ok rfl rfl rfl rfl rfl rfl rfl rfl (by omega) (by omega) (by show (1 : Int) * _ ≤ _; omega) (by omega) (fun _ => rfl) (fun ob => ?_))) | (refine XL_op tt_ok rfl rfl ?_; try (refine XL_dec_f (by omega) ?_))) | (refine XD_id ?_; first | (refine XD_thaw thaw ?_; refine XD_nil ?_) | (refine XD_id ?_; ((refine XD_u rfl rfl ?_; first | refine XD_s rfl rfl rfl (XV_op tt_ok rfl) rfl ?_ | refine XD_s rfl rfl rfl (XV_build tt_ok rfl rfl rfl rfl rfl rfl) rfl ?_))) | refine XD_m rfl rfl ?_) | (refine X_id ?_; first | refine X_block (id := 0) (hold ?_) | (refine X_drawW (id := 3) ⟨[0, 2], 1, [3, 4, 5, 6]⟩ ⟨[0, 2], 3, [1, 4, 5, 6]⟩ (fun | 1 => .m | 3 => .m | 5 => .m | _ => .s) 8 (by repeat' (exact Split.nil)) mixed (by decide +kernel) ?_ ?_ <;> (intro G hFG hM thaw; (first | show XD _ _ _ _ _ _ [0, 2, 1, 3, 4, 5, 6] _ _ _ | show XD _ _ _ _ _ _ [0, 2, 3, 1, 4, 5, 6] _ _ _))) | refine X_seq ?_ | (refine X_regionN (by repeat' (first | exact .nil | apply NL.cons)) ?_) | refine X_skip ?_ | refine X_cond_f rfl ?_) | (refine Y_id ?_; first | refine Y_then ?_ | refine Y_m ?_))
  case refine_1 => 
    intro _
    refine X_mem (fun _ hh => stars_take [0, 1] rfl hh) ?_
    refine X_loopD [0, 4] (fun (i : Nat) => [(5, .int .i64 i)]) (fun i => [rbB rb ob tb n, own encB (some ⟨ob, 0, none⟩) n n (List.replicate i true ++ List.replicate (n - i) false), own encN (some ⟨tb, 0, none⟩) n n (List.replicate n 0)]) (fun i => i ≤ n) (fun i => n - i) 0 rfl (Nat.zero_le _) (by (repeat' (first | exact trivial | refine And.intro rfl ?_)); done) (stars_only [0, 0, 0] rfl) ?_
    intro i hi
    have hi : i ≤ n := hi
    by_cases hlt : i < n
    · have hset := rep_set hlt
      repeat' (first | (refine XL_id ?_; first | refine XL_nil ?_ | (refine XG_load ?_; refine XL_load tt_ok 0 rfl rfl rfl rfl rfl rfl ?_) | (refine XG_idx ?_; refine XL_idxl tt_ok rfl rfl rfl rfl rfl (by omega) (by omega) rfl ?_) | (refine XG_store ?_; refine XL_put1 tt_ok 1 true rfl rfl rfl rfl rfl rfl rfl (by omega) rfl ?_) | (refine XL_op tt_ok rfl rfl ?_; try (first | refine XL_int (wrap_i64 (by omega) (by omega)) ?_ | refine XL_dec_t (by omega) ?_))) | (refine X_id ?_; first | refine X_seq ?_ | (refine X_regionN (by repeat' (first | exact .nil | apply NL.cons)) ?_) | refine X_skip ?_ | refine X_block ?_ | refine X_cond_t rfl ?_) | (refine Y_id ?_; first | refine Y_then ?_ | refine Y_block_normal ?_))
      all_goals first
        | exact Y_again (i + 1) fun _ _ hf hs => ⟨hlt, by show n - (i + 1) < n - i; omega, hf.sub (by (repeat' (first | exact trivial | refine And.intro rfl ?_)); done), hs.imp fun g hg => stars_conv (k := 1) rfl (fun _ o => by have e : 0 + ((i : Nat) : Int).toNat * 1 = i := (by simp); rw [e, hset] at o; exact o) hg⟩
        | (exfalso; omega)
        | skip
      
    · obtain rfl : i = n := by omega
      rw [Nat.sub_self, List.replicate_zero, List.append_nil]
      repeat' (first | (refine XL_id ?_; first | refine XL_nil ?_ | (refine XL_op tt_ok rfl rfl ?_; try (refine XL_dec_f (by omega) ?_))) | (refine X_id ?_; first | refine X_seq ?_ | (refine X_regionN (by repeat' (first | exact .nil | apply NL.cons)) ?_) | refine X_ret ?_ | refine X_exit ?_ | refine X_cond_f rfl ?_) | (refine Y_id ?_; first | refine Y_then ?_ | refine Y_then_exit ?_ | refine Y_block_hit ?_))
      all_goals first
        | exact Y_ret2 rfl rfl rfl (stars_fin [0, 0, 0] rfl (isRb_mk (List.length_replicate).symm (by rw [List.length_replicate, List.length_replicate]))) ⟨_, rfl, rfl⟩
        | (exfalso; omega)
        | skip
      
  case refine_2 =>
    intro _
    refine X_loopD [0, 4] (fun (i : Nat) => [(5, .int .i64 i)]) (fun i => [rbB rb ob tb n, own encB (some ⟨ob, 0, none⟩) n n (List.replicate i true ++ List.replicate (n - i) false), own encN (some ⟨tb, 0, none⟩) n n (List.replicate n 0)]) (fun i => i ≤ n) (fun i => n - i) 0 rfl (Nat.zero_le _) (by (repeat' (first | exact trivial | refine And.intro rfl ?_)); done) (stars_only [0, 0, 0] rfl) ?_
    intro i hi
    have hi : i ≤ n := hi
    by_cases hlt : i < n
    · have hset := rep_set hlt
      repeat' (first | (refine XL_id ?_; first | refine XL_nil ?_ | (refine XG_load ?_; refine XL_load tt_ok 0 rfl rfl rfl rfl rfl rfl ?_) | (refine XG_idx ?_; refine XL_idxl tt_ok rfl rfl rfl rfl rfl (by omega) (by omega) rfl ?_) | (refine XG_store ?_; refine XL_put1 tt_ok 1 true rfl rfl rfl rfl rfl rfl rfl (by omega) rfl ?_) | (refine XL_op tt_ok rfl rfl ?_; try (first | refine XL_int (wrap_i64 (by omega) (by omega)) ?_ | refine XL_dec_t (by omega) ?_))) | (refine X_id ?_; first | refine X_seq ?_ | (refine X_regionN (by repeat' (first | exact .nil | apply NL.cons)) ?_) | refine X_skip ?_ | refine X_block ?_ | refine X_cond_t rfl ?_) | (refine Y_id ?_; first | refine Y_then ?_ | refine Y_block_normal ?_))
      all_goals first
        | exact Y_again (i + 1) fun _ _ hf hs => ⟨hlt, by show n - (i + 1) < n - i; omega, hf.sub (by (repeat' (first | exact trivial | refine And.intro rfl ?_)); done), hs.imp fun g hg => stars_conv (k := 1) rfl (fun _ o => by have e : 0 + ((i : Nat) : Int).toNat * 1 = i := (by simp); rw [e, hset] at o; exact o) hg⟩
        | (exfalso; omega)
        | skip
      
    · obtain rfl : i = n := by omega
      rw [Nat.sub_self, List.replicate_zero, List.append_nil]
      repeat' (first | (refine XL_id ?_; first | refine XL_nil ?_ | (refine XL_op tt_ok rfl rfl ?_; try (refine XL_dec_f (by omega) ?_))) | (refine X_id ?_; first | refine X_seq ?_ | (refine X_regionN (by repeat' (first | exact .nil | apply NL.cons)) ?_) | refine X_ret ?_ | refine X_exit ?_ | refine X_cond_f rfl ?_) | (refine Y_id ?_; first | refine Y_then ?_ | refine Y_then_exit ?_ | refine Y_block_hit ?_))
      all_goals first
        | exact Y_ret2 rfl rfl rfl (stars_fin [0, 0, 0] rfl (isRb_mk (List.length_replicate).symm (by rw [List.length_replicate, List.length_replicate]))) ⟨_, rfl, rfl⟩
        | (exfalso; omega)
        | skip
      
theorem rfree_spec (r ob tb : Nat) (op : List Bool) (hn : op.length ≤ 4096) : FnC Try.prog 17 [ptr r] (fun h => rbB r ob tb op.length h ∧ rdS encB h (some ⟨ob, 0, none⟩) op.length op) (iV (cntB op)) := by
  refine Ctr.intro Try.func17 rfl rfl (by decide +kernel) fun F hpre => ?_
  have hbk : rbB r ob tb op.length F.heap := hpre.1
  have r1 : rdS encB F.heap (some ⟨ob, 0, none⟩) op.length op := hpre.2
  repeat' (first | (refine XL_id ?_; first | refine XL_nil ?_ | (refine XL_op tt_ok rfl rfl ?_)) | (refine X_id ?_; first | refine X_block (id := 0) (hold ?_) | refine X_seq ?_ | (refine X_regionN (by repeat' (exact .nil)) ?_)) | (refine Y_id ?_; refine Y_then ?_))
  intro _
  refine X_loopD [0] (fun (i : Nat) => [(4, .int .i64 i), (3, .int .i64 (cntB (op.take i)))]) (fun _ => []) (fun i => i ≤ op.length) (fun i => op.length - i) 0 rfl (Nat.zero_le _) (by (repeat' (first | exact trivial | refine And.intro rfl ?_)); done) (fun _ _ => trivial) ?_
  intro i hi
  have hi : i ≤ op.length := hi
  by_cases hlt : i < op.length
  · have hsn : op.take (i + 1) = op.take i ++ [Cof.get op (i : Int)] := take_snoc' _ _ hlt
    have hle := BOk.cnt_le.cle (op.take i)
    rw [List.length_take] at hle
    obtain ⟨C, hC⟩ : ∃ C, cntB (op.take i) = C := ⟨_, rfl⟩
    obtain ⟨C2, hC2⟩ : ∃ C, cntB (op.take (i + 1)) = C := ⟨_, rfl⟩
    have hcc : C2 = C + if Cof.get op (i : Int) then 1 else 0 := by rw [← hC2, hsn, cnt_app, hC]; simp [cntB]
    rw [hC] at hle ⊢
    cases hb : Cof.get op (i : Int) with
    | true =>
      rw [hb] at hcc
      have hcc : C2 = C + 1 := hcc
      have hadd : (C : Int) + 1 = (C2 : Int) := by omega
      repeat' (first | (refine XL_id ?_; first | refine XL_head (show Value.bool (Cof.get op (i : Int)) = .bool true from congrArg _ hb) ?_ | refine XL_nil ?_ | (refine XG_load ?_; first | refine XL_loadF tt_ok rfl (by assumption) rfl rfl rfl rfl ?_ | refine XL_el tt_ok rfl (by assumption) rfl (by omega) (by omega) rfl rfl rfl rfl ?_) | (refine XG_idx ?_; refine XL_idx tt_ok rfl rfl rfl rfl rfl (by assumption) (by omega) (by omega) rfl ?_) | (refine XL_op tt_ok rfl rfl ?_; refine XL_int (Eq.trans (wrap_i64 (by omega) (by omega)) hadd) ?_) | (refine XL_op tt_ok rfl rfl ?_; try (first | refine XL_int (wrap_i64 (by omega) (by omega)) ?_ | refine XL_dec_t (by omega) ?_))) | (refine X_id ?_; first | refine X_seq ?_ | (refine X_regionN (by repeat' (exact .nil)) ?_) | refine X_skip ?_ | refine X_block ?_ | refine X_cond_t rfl ?_) | (refine Y_id ?_; first | refine Y_then ?_ | refine Y_block_normal ?_))
      all_goals first
        | (subst hC2; exact Y_again (i + 1) fun _ _ hf hs => ⟨hlt, by show op.length - (i + 1) < op.length - i; omega, hf.sub (by (repeat' (first | exact trivial | refine And.intro rfl ?_)); done), hs⟩)
        | (exfalso; omega)
        | skip
      
    | false =>
      rw [hb] at hcc
      have hcc : C2 = C := hcc
      subst hcc
      repeat' (first | (refine XL_id ?_; first | refine XL_head (show Value.bool (Cof.get op (i : Int)) = .bool false from congrArg _ hb) ?_ | refine XL_nil ?_ | (refine XG_load ?_; first | refine XL_loadF tt_ok rfl (by assumption) rfl rfl rfl rfl ?_ | refine XL_el tt_ok rfl (by assumption) rfl (by omega) (by omega) rfl rfl rfl rfl ?_) | (refine XG_idx ?_; refine XL_idx tt_ok rfl rfl rfl rfl rfl (by assumption) (by omega) (by omega) rfl ?_) | (refine XL_op tt_ok rfl rfl ?_; try (first | refine XL_int (wrap_i64 (by omega) (by omega)) ?_ | refine XL_dec_t (by omega) ?_))) | (refine X_id ?_; first | refine X_seq ?_ | (refine X_regionN (by repeat' (exact .nil)) ?_) | refine X_skip ?_ | refine X_block ?_ | refine X_cond_t rfl ?_ | refine X_cond_f rfl ?_) | (refine Y_id ?_; first | refine Y_then ?_ | refine Y_block_normal ?_))
      all_goals first
        | (subst hC2; exact Y_again (i + 1) fun _ _ hf hs => ⟨hlt, by show op.length - (i + 1) < op.length - i; omega, hf.sub (by (repeat' (first | exact trivial | refine And.intro rfl ?_)); done), hs⟩)
        | (exfalso; omega)
        | skip
      
  · obtain rfl : i = op.length := by omega
    rw [List.take_length]
    repeat' (first | (refine XL_id ?_; first | refine XL_nil ?_ | (refine XG_load ?_; refine XL_loadF tt_ok rfl (by assumption) rfl rfl rfl rfl ?_) | (refine XL_op tt_ok rfl rfl ?_; try (refine XL_dec_f (by omega) ?_))) | (refine X_id ?_; first | refine X_seq ?_ | (refine X_regionN (by repeat' (exact .nil)) ?_) | refine X_ret ?_ | refine X_exit ?_ | refine X_cond_f rfl ?_) | (refine Y_id ?_; first | refine Y_then ?_ | refine Y_then_exit ?_ | refine Y_block_hit ?_))
    all_goals first
      | exact Y_fn1 rfl rfl rfl
      | (exfalso; omega)
      | skip
    
end Go.Proofs.Ytkcpjgdmfjhlkaa
