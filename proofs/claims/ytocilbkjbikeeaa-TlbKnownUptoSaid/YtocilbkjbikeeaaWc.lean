/- Walks of the program's TLB: what is asked, where a translation stands, Peek. -/
import Derived.Test.YtocilbkjbikeeaaWb
set_option linter.unusedVariables false
namespace Go.Proofs.Ytocilbkjbikeeaa
open Go.RowKit Go.Cof

theorem find_firstQ {α : Type} [Inhabited α] (q : α → Bool) : ∀ l : List α, l.find? q = if firstQ q l < l.length then some (Cof.get l (firstQ q l : Int)) else none
  | [] => rfl
  | x :: l => by
    cases h : q x with
    | true => rw [List.find?_cons_of_pos h, firstQ_cons_t h, if_pos (by simp)]; rfl
    | false =>
      rw [List.find?_cons_of_neg (by rw [h]; decide), find_firstQ q l, firstQ_cons_f h, get_cons_succ]
      by_cases hl : firstQ q l < l.length
      · rw [if_pos hl, if_pos (by rw [List.length_cons]; omega)]
      · rw [if_neg hl, if_neg (by rw [List.length_cons]; omega)]
def askE (a p : Int) : Int := if 0 ≤ a ∧ a < 128 ∧ 0 ≤ p ∧ p < 1048576 then 0 else 2
theorem askE_ok {a p : Int} (h : askE a p = 0) : 0 ≤ a ∧ a < 128 ∧ 0 ≤ p ∧ p < 1048576 := by
  unfold askE at h
  split at h
  · assumption
  · cases h
theorem askE_or (a p : Int) : askE a p = 0 ∨ askE a p = 2 := by unfold askE; split <;> simp
abbrev tlbB (p : Nat) (n : Int) (A : Option Addr) (m c : Nat) : HProp := blk p [.int .i64 n, .slice A m c] 62
abbrev ptr (p : Nat) : Value := .pointer (some ⟨p, 0, none⟩)
theorem of_spec (x : Tr) : FnC Try.prog 31 [trV x] (fun _ => True) (kyV x.a x.p) := by
  refine Ctr.intro Try.func31 rfl rfl (by decide +kernel) fun F hpre => ?_
  repeat' (first | (refine XL_id ?_; first | refine XL_nil ?_ | (refine XG_load ?_; refine XL_load tt_ok 1 rfl rfl rfl rfl rfl rfl ?_) | (refine XG_box ?_; (refine XL_box rfl (fun _ => rfl) (fun _ => ?_); refine XL_nB (by repeat' (first | exact .nil | apply NL.cons)) ?_)) | (refine XG_build ?_; (refine XL_build tt_ok rfl rfl rfl rfl rfl rfl rfl ?_; refine XL_aggN (by repeat' (first | exact .nil | apply NL.cons)) ?_)) | (refine XG_alloc ?_; (refine XL_alloc tt_ok rfl rfl (fun _ => rfl) (fun b => ?_); refine XL_nB (by repeat' (first | exact .nil | apply NL.cons)) ?_)) | (refine XG_store ?_; (refine XL_storeW tt_ok 0 rfl rfl rfl rfl rfl rfl rfl ?_; refine XL_nK 0 rfl (by repeat' (first | exact .nil | apply NL.cons)) ?_)) | (refine XL_op tt_ok rfl rfl ?_)) | (refine X_id ?_; first | refine X_seq ?_ | (refine X_regionN (by repeat' (first | exact .nil | apply NL.cons)) ?_) | refine X_ret ?_) | (refine Y_id ?_; refine Y_then ?_))
  exact Y_res1 rfl (.cell tt_ok 0 rfl rfl rfl rfl rfl) (L' := []) (fun _ _ => trivial) ⟨rfl, rfl⟩
theorem asked_spec (p : Nat) (n : Int) (A : Option Addr) (m c : Nat) (a pg : Int) (hn : n ≠ 0) : FnC Try.prog 30 [ptr p, kyV a pg] (tlbB p n A m c) (.int .i64 (askE a pg)) := by
  refine Ctr.intro Try.func30 rfl rfl (by decide +kernel) fun F hpre => ?_
  by_cases h : 0 ≤ a ∧ a < 128 ∧ 0 ≤ pg ∧ pg < 1048576
  · rw [show askE a pg = 0 from if_pos h]
    repeat' (first | (refine XL_id ?_; first | refine XL_nil ?_ | refine XL_guard_yes rfl rfl rfl ?_ | (refine XG_load ?_; first | refine XL_load tt_ok 0 rfl rfl rfl rfl rfl rfl ?_ | refine XL_loadF tt_ok rfl (by assumption) rfl rfl rfl rfl ?_) | (refine XG_box ?_; (refine XL_box rfl (fun _ => rfl) (fun _ => ?_); refine XL_nB (by repeat' (first | exact .nil | apply NL.cons)) ?_)) | (refine XL_op tt_ok rfl rfl ?_; try (refine XL_dec_f (by omega) ?_))) | (refine X_id ?_; first | refine X_seq ?_ | (refine X_regionN (by repeat' (first | exact .nil | apply NL.cons)) ?_) | refine X_skip ?_ | refine X_ret ?_ | refine X_cond_f rfl ?_) | (refine Y_id ?_; refine Y_then ?_))
    all_goals first
      | exact Y_fn1 rfl rfl rfl
      | (exfalso; omega)
  · rw [show askE a pg = 2 from if_neg h]
    repeat' (first | (refine XL_id ?_; first | refine XL_nil ?_ | refine XL_guard_yes rfl rfl rfl ?_ | refine XL_guard_no rfl rfl rfl rfl rfl ?_ | (refine XG_load ?_; first | refine XL_load tt_ok 0 rfl rfl rfl rfl rfl rfl ?_ | refine XL_loadF tt_ok rfl (by assumption) rfl rfl rfl rfl ?_) | (refine XG_box ?_; (refine XL_box rfl (fun _ => rfl) (fun _ => ?_); refine XL_nB (by repeat' (first | exact .nil | apply NL.cons)) ?_)) | (refine XL_op tt_ok rfl rfl ?_; try (first | refine XL_dec_t (by omega) ?_ | refine XL_dec_f (by omega) ?_ | refine XL_dec (fun _ => ?_) (fun _ => ?_)))) | (refine X_id ?_; first | refine X_seq ?_ | (refine X_regionN (by repeat' (first | exact .nil | apply NL.cons)) ?_) | refine X_skip ?_ | refine X_ret ?_ | refine X_cond_t rfl ?_ | refine X_cond_f rfl ?_) | (refine Y_id ?_; first | refine Y_then ?_ | refine Y_then_ret ?_))
    all_goals first
      | exact Y_fn1 rfl rfl rfl
      | (exfalso; omega)
theorem closK_spec (kb : Nat) (a pg : Int) (x : Tr) : FnC Try.prog 48 [trV x, ptr kb] (kyB kb a pg) (.bool (kB a pg x)) := by
  refine Ctr.intro Try.func48 rfl rfl (by decide +kernel) fun F hpre => ?_
  repeat' (first | (refine XL_id ?_; first | refine XL_nil ?_ | (refine XG_box ?_; (refine XL_box rfl (fun _ => rfl) (fun _ => ?_); refine XL_nB (by repeat' (first | exact .nil | apply NL.cons)) ?_)) | (refine XG_call ?_; refine XL_fn (of_spec x) rfl rfl (fun _ _ _ => trivial) ?_) | (refine XL_op tt_ok rfl rfl ?_)) | (refine XD_id ?_; first | (refine XD_thaw thaw ?_; refine XD_nil ?_) | (refine XD_id ?_; (first | (refine XD_uL rfl ?_; first | refine XD_s rfl rfl rfl (XV_loadW tt_ok rfl (blk_at 0 rfl hM) rfl rfl rfl) rfl ?_ | refine XD_s rfl rfl rfl (XV_loadW tt_ok rfl (blk_le (by assumption) hFG) rfl rfl rfl) rfl ?_) | (refine XD_u rfl rfl ?_; first | refine XD_s rfl rfl rfl (XV_op tt_ok rfl) rfl ?_ | refine XD_s rfl rfl rfl (XV_eq (a := (⟨x.a, x.p⟩ : Ky)) (b := (⟨a, pg⟩ : Ky)) eqKy rfl rfl) rfl ?_)); try (refine XD_dec (fun _ => ?_) (fun _ => ?_))) | refine XD_m rfl rfl ?_) | (refine X_id ?_; first | (refine X_drawS (id := 1) [0, 2, 1, 3, 4] (fun | 1 => .m | _ => .s) 8 (by repeat' (first | exact Split.nil | apply Split.blk)) mixed (by decide +kernel) ?_; intro G hFG hM thaw; show XD _ _ _ _ _ _ [0, 2, 1, 3, 4] _ _ _) | refine X_seq ?_ | (refine X_regionN (by repeat' (exact .nil)) ?_) | refine X_ret ?_) | (refine Y_id ?_; first | refine Y_then ?_ | refine Y_m ?_))
  all_goals first
    | exact Y_fn1 rfl rfl (by rw [ky_dec])
    | (refine Y_fn1 rfl rfl ?_; rw [← ky_dec]; first | exact bool_t (by assumption) | exact bool_f (by assumption))
    | skip
  
theorem closD_spec (kb : Nat) (a pg : Int) (x : Tr) : FnC Try.prog 33 [trV x, ptr kb] (kyB kb a pg) (.bool (kB a pg x)) := by
  refine Ctr.intro Try.func33 rfl rfl (by decide +kernel) fun F hpre => ?_
  repeat' (first | (refine XL_id ?_; first | refine XL_nil ?_ | (refine XG_box ?_; (refine XL_box rfl (fun _ => rfl) (fun _ => ?_); refine XL_nB (by repeat' (first | exact .nil | apply NL.cons)) ?_)) | (refine XG_call ?_; refine XL_fn (of_spec x) rfl rfl (fun _ _ _ => trivial) ?_) | (refine XL_op tt_ok rfl rfl ?_)) | (refine XD_id ?_; first | (refine XD_thaw thaw ?_; refine XD_nil ?_) | (refine XD_id ?_; (first | (refine XD_uL rfl ?_; first | refine XD_s rfl rfl rfl (XV_loadW tt_ok rfl (blk_at 0 rfl hM) rfl rfl rfl) rfl ?_ | refine XD_s rfl rfl rfl (XV_loadW tt_ok rfl (blk_le (by assumption) hFG) rfl rfl rfl) rfl ?_) | (refine XD_u rfl rfl ?_; first | refine XD_s rfl rfl rfl (XV_op tt_ok rfl) rfl ?_ | refine XD_s rfl rfl rfl (XV_eq (a := (⟨x.a, x.p⟩ : Ky)) (b := (⟨a, pg⟩ : Ky)) eqKy rfl rfl) rfl ?_)); try (refine XD_dec (fun _ => ?_) (fun _ => ?_))) | refine XD_m rfl rfl ?_) | (refine X_id ?_; first | (refine X_drawS (id := 1) [0, 2, 1, 3, 4] (fun | 1 => .m | _ => .s) 8 (by repeat' (first | exact Split.nil | apply Split.blk)) mixed (by decide +kernel) ?_; intro G hFG hM thaw; show XD _ _ _ _ _ _ [0, 2, 1, 3, 4] _ _ _) | refine X_seq ?_ | (refine X_regionN (by repeat' (exact .nil)) ?_) | refine X_ret ?_) | (refine Y_id ?_; first | refine Y_then ?_ | refine Y_m ?_))
  all_goals first
    | exact Y_fn1 rfl rfl (by rw [ky_dec])
    | (refine Y_fn1 rfl rfl ?_; rw [← ky_dec]; first | exact bool_t (by assumption) | exact bool_f (by assumption))
    | skip
  
theorem closA_spec (kb : Nat) (a : Int) (x : Tr) : FnC Try.prog 36 [trV x, ptr kb] (blk kb [.int .i64 a] 3) (.bool (decide (x.a = a))) := by
  refine Ctr.intro Try.func36 rfl rfl (by decide +kernel) fun F hpre => ?_
  repeat' (first | (refine XL_id ?_; first | refine XL_nil ?_ | (refine XG_load ?_; first | refine XL_load tt_ok 0 rfl rfl rfl rfl rfl rfl ?_ | refine XL_loadF tt_ok rfl (by assumption) rfl rfl rfl rfl ?_) | (refine XG_box ?_; (refine XL_box rfl (fun _ => rfl) (fun _ => ?_); refine XL_nB (by repeat' (first | exact .nil | apply NL.cons)) ?_)) | (refine XL_op tt_ok rfl rfl ?_; try (refine XL_dec (fun _ => ?_) (fun _ => ?_)))) | (refine X_id ?_; first | refine X_seq ?_ | (refine X_regionN (by repeat' (first | exact .nil | apply NL.cons)) ?_) | refine X_ret ?_) | (refine Y_id ?_; refine Y_then ?_))
  all_goals first
    | exact Y_fn1 rfl rfl rfl
    | (refine Y_fn1 rfl rfl ?_; first | exact bool_t (by assumption) | exact bool_f (by assumption))
theorem closE_spec (x : Tr) : FnC Try.prog 46 [trV x] (fun _ => True) (.bool true) := by
  refine Ctr.intro Try.func46 rfl rfl (by decide +kernel) fun F hpre => ?_
  repeat' (first | (refine XL_id ?_; first | refine XL_nil ?_ | (refine XG_box ?_; (refine XL_box rfl (fun _ => rfl) (fun _ => ?_); refine XL_nB (by repeat' (first | exact .nil | apply NL.cons)) ?_)) | (refine XL_op tt_ok rfl rfl ?_; try (refine XL_dec_t (by omega) ?_))) | (refine X_id ?_; first | refine X_seq ?_ | (refine X_regionN (by repeat' (first | exact .nil | apply NL.cons)) ?_) | refine X_ret ?_) | (refine Y_id ?_; refine Y_then ?_))
  exact Y_fn1 rfl rfl rfl
theorem at_spec (p : Nat) (n : Int) (A : Option Addr) (m c : Nat) (xs : List Tr) (a pg : Int) (hm : m ≤ 100000) : FnC Try.prog 28 [ptr p, kyV a pg] (fun h => tlbB p n A m c h ∧ rdS encTr h A m xs) (.int .i64 (idxI (kB a pg) xs)) := by
  have hix := fun kb : Nat => index_spec A m c xs 48 #[ptr kb] (kyB kb a pg) (kB a pg) (by omega) (fun _ _ hl hb => blk_le hb hl) (fun x => closK_spec kb a pg x)
  refine Ctr.intro Try.func28 rfl rfl (by decide +kernel) fun F hpre => ?_
  obtain ⟨hb, hr⟩ := hpre
  repeat' (first | (refine XL_id ?_; first | refine XL_nil ?_ | (refine XG_load ?_; refine XL_loadF tt_ok rfl (by assumption) rfl rfl rfl rfl ?_) | (refine XG_box ?_; (refine XL_box rfl (fun _ => rfl) (fun _ => ?_); refine XL_nB (by repeat' (first | exact .nil | apply NL.cons)) ?_)) | (refine XG_call ?_; refine XL_fn (hix _) rfl rfl (fun g hg hL => ⟨hr.le hg, blk_at 0 rfl hL⟩) ?_) | (refine XL_op tt_ok rfl rfl ?_)) | (refine X_id ?_; first | refine X_seq ?_ | (refine X_regionN (by repeat' (first | exact .nil | apply NL.cons)) ?_) | refine X_ret ?_) | (refine Y_id ?_; refine Y_then ?_))
  exact Y_fn1 rfl rfl rfl
def peekR (xs : List Tr) (a pg : Int) : Tr × Bool × Int := if askE a pg = 0 then (match xs.find? (kB a pg) with | some x => (x, true, 0) | none => (tr0, false, 0)) else (tr0, false, askE a pg)
abbrev peekV (x : Tr × Bool × Int) : Value := .tuple #[trV x.1, .bool x.2.1, .int .i64 x.2.2]
theorem peek_spec (p : Nat) (n : Int) (A : Option Addr) (m c : Nat) (xs : List Tr) (a pg : Int) (hn : n ≠ 0) (hm : m ≤ 100000) : FnC Try.prog 19 [ptr p, .int .i64 a, .int .i64 pg] (fun h => tlbB p n A m c h ∧ rdS encTr h A m xs) (peekV (peekR xs a pg)) := by
  have hask := asked_spec p n A m c a pg hn
  have hat := at_spec p n A m c xs a pg hm
  have hff := find_firstQ (kB a pg) xs
  unfold peekR
  rw [hff]
  refine Ctr.intro Try.func19 rfl rfl (by decide +kernel) fun F hpre => ?_
  obtain ⟨hb, hr⟩ := hpre
  have hlen := hr.1
  by_cases he : askE a pg = 0
  · rw [if_pos he]
    rw [he] at hask
    by_cases hf : firstQ (kB a pg) xs < xs.length
    · rw [if_pos hf]
      rw [show idxI (kB a pg) xs = (firstQ (kB a pg) xs : Int) from if_pos hf] at hat
      repeat' (first | (refine XL_id ?_; first | refine XL_nil ?_ | (refine XG_load ?_; first | refine XL_loadW tt_ok 0 rfl rfl rfl rfl rfl rfl ?_ | refine XL_loadF tt_ok rfl (by assumption) rfl rfl rfl rfl ?_ | refine XL_elW tt_ok rfl (by assumption) rfl (by omega) (by omega) rfl rfl rfl rfl ?_) | (refine XG_idx ?_; refine XL_idx tt_ok rfl rfl rfl rfl rfl (by assumption) (by omega) (by omega) rfl ?_) | (refine XG_build ?_; (refine XL_build tt_ok rfl rfl rfl rfl rfl rfl rfl ?_; refine XL_aggN (by repeat' (first | exact .nil | apply NL.cons)) ?_)) | (refine XG_call ?_; first | refine XL_fn hask rfl rfl (fun g hg hL => blk_le hb hg) ?_ | refine XL_fn hat rfl rfl (fun g hg hL => ⟨blk_le hb hg, hr.le hg⟩) ?_) | (refine XG_alloc ?_; (refine XL_alloc tt_ok rfl rfl (fun _ => rfl) (fun b => ?_); refine XL_nB (by repeat' (first | exact .nil | apply NL.cons)) ?_)) | (refine XG_store ?_; first | (refine XL_storeW tt_ok 0 rfl rfl rfl rfl rfl rfl rfl ?_; refine XL_nK 0 rfl (by repeat' (first | exact .nil | apply NL.cons)) ?_) | (refine XL_storeW tt_ok 1 rfl rfl rfl rfl rfl rfl rfl ?_; refine XL_nK 1 rfl (by repeat' (first | exact .nil | apply NL.cons)) ?_)) | (refine XL_op tt_ok rfl rfl ?_; try (first | refine XL_dec_t (by omega) ?_ | refine XL_dec_f (by omega) ?_))) | (refine X_id ?_; first | refine X_seq ?_ | (refine X_regionN (by repeat' (first | exact .nil | apply NL.cons)) ?_) | refine X_skip ?_ | refine X_ret ?_ | refine X_cond_t rfl ?_ | refine X_cond_f rfl ?_) | (refine Y_id ?_; first | refine Y_then ?_ | refine Y_then_ret ?_))
      all_goals first
        | exact Y_res3 rfl (.cell tt_ok 1 rfl rfl rfl rfl rfl) (.tmp rfl) (.tmp rfl) (L' := []) (fun _ _ => trivial) ⟨rfl, rfl⟩
        | skip
      
    · rw [if_neg hf]
      rw [show idxI (kB a pg) xs = -1 from if_neg hf] at hat
      repeat' (first | (refine XL_id ?_; first | refine XL_nil ?_ | (refine XG_load ?_; refine XL_loadW tt_ok 0 rfl rfl rfl rfl rfl rfl ?_) | (refine XG_build ?_; (refine XL_build tt_ok rfl rfl rfl rfl rfl rfl rfl ?_; refine XL_aggN (by repeat' (first | exact .nil | apply NL.cons)) ?_)) | (refine XG_call ?_; first | refine XL_fn hask rfl rfl (fun g hg hL => blk_le hb hg) ?_ | refine XL_fn hat rfl rfl (fun g hg hL => ⟨blk_le hb hg, hr.le hg⟩) ?_) | (refine XG_alloc ?_; (refine XL_alloc tt_ok rfl rfl (fun _ => rfl) (fun b => ?_); refine XL_nB (by repeat' (first | exact .nil | apply NL.cons)) ?_)) | (refine XG_store ?_; first | (refine XL_storeW tt_ok 0 rfl rfl rfl rfl rfl rfl rfl ?_; refine XL_nK 0 rfl (by repeat' (first | exact .nil | apply NL.cons)) ?_) | (refine XL_storeW tt_ok 1 rfl rfl rfl rfl rfl rfl rfl ?_; refine XL_nK 1 rfl (by repeat' (first | exact .nil | apply NL.cons)) ?_)) | (refine XL_op tt_ok rfl rfl ?_; try (refine XL_dec_f (by omega) ?_))) | (refine X_id ?_; first | refine X_seq ?_ | (refine X_regionN (by repeat' (first | exact .nil | apply NL.cons)) ?_) | refine X_skip ?_ | refine X_ret ?_ | refine X_cond_f rfl ?_) | (refine Y_id ?_; refine Y_then ?_))
      all_goals first
        | exact Y_res3 rfl (.cell tt_ok 1 rfl rfl rfl rfl rfl) (.tmp rfl) (.tmp rfl) (L' := []) (fun _ _ => trivial) ⟨rfl, rfl⟩
        | skip
      
  · rw [if_neg he]
    repeat' (first | (refine XL_id ?_; first | refine XL_nil ?_ | (refine XG_load ?_; refine XL_loadW tt_ok 0 rfl rfl rfl rfl rfl rfl ?_) | (refine XG_build ?_; (refine XL_build tt_ok rfl rfl rfl rfl rfl rfl rfl ?_; refine XL_aggN (by repeat' (first | exact .nil | apply NL.cons)) ?_)) | (refine XG_call ?_; refine XL_fn hask rfl rfl (fun g hg hL => blk_le hb hg) ?_) | (refine XG_alloc ?_; (refine XL_alloc tt_ok rfl rfl (fun _ => rfl) (fun b => ?_); refine XL_nB (by repeat' (first | exact .nil | apply NL.cons)) ?_)) | (refine XG_store ?_; first | (refine XL_storeW tt_ok 0 rfl rfl rfl rfl rfl rfl rfl ?_; refine XL_nK 0 rfl (by repeat' (first | exact .nil | apply NL.cons)) ?_) | (refine XL_storeW tt_ok 1 rfl rfl rfl rfl rfl rfl rfl ?_; refine XL_nK 1 rfl (by repeat' (first | exact .nil | apply NL.cons)) ?_)) | (refine XL_op tt_ok rfl rfl ?_; try (refine XL_dec_t (by omega) ?_))) | (refine X_id ?_; first | refine X_seq ?_ | (refine X_regionN (by repeat' (first | exact .nil | apply NL.cons)) ?_) | refine X_ret ?_ | refine X_cond_t rfl ?_) | (refine Y_id ?_; first | refine Y_then ?_ | refine Y_then_ret ?_))
    all_goals first
      | exact Y_res3 rfl (.cell tt_ok 1 rfl rfl rfl rfl rfl) (.tmp rfl) (.tmp rfl) (L' := []) (fun _ _ => trivial) ⟨rfl, rfl⟩
      | skip
    
end Go.Proofs.Ytocilbkjbikeeaa
