/- Walks of the program's TLB: what is asked, where a translation stands, Peek. -/
import Derived.Test.YthmllhihldbfoaaTlWb
set_option linter.unusedVariables false
namespace Go.Proofs.Ythmllhihldbfoaa.Tl
open Go.RowKit Go.Cof

theorem find_firstQ {α : Type} [Inhabited α] (q : α → Bool) : ∀ l : List α, l.find? q = if firstQ q l < l.length then some (Cof.get l (firstQ q l : Int)) else none
  | [] => rfl
  | x :: l => by
    cases h : q x with
    | true => rw [List.find?_cons_of_pos h, firstQ_cons_t h, if_pos (by simp)]; rfl
    | false =>
      rw [List.find?_cons_of_neg (by rw [h]; decide), find_firstQ q l, firstQ_cons_f h, get_cons_succ]
      by_cases hl : firstQ q l < l.length
      · rw [if_pos hl, if_pos (by rw [List.length_cons]; omega)]
      · rw [if_neg hl, if_neg (by rw [List.length_cons]; omega)]
def askE (a p : Int) : Int := if 0 ≤ a ∧ a < 128 ∧ 0 ≤ p ∧ p < 1048576 then 0 else 2
theorem askE_ok {a p : Int} (h : askE a p = 0) : 0 ≤ a ∧ a < 128 ∧ 0 ≤ p ∧ p < 1048576 := by
  unfold askE at h
  split at h
  · assumption
  · cases h
theorem askE_or (a p : Int) : askE a p = 0 ∨ askE a p = 2 := by unfold askE; split <;> simp
abbrev tlbB (p : Nat) (n : Int) (A : Option Addr) (m c : Nat) : HProp := blk p [.int .i64 n, .slice A m c] 91
abbrev ptr (p : Nat) : Value := .pointer (some ⟨p, 0, none⟩)
theorem of_spec (x : Tr) : FnC Try.prog 34 [trV x] (fun _ => True) (kyV x.a x.p) := by
  refine Ctr.intro Try.func34 rfl rfl (by decide +kernel) fun F hpre => ?_
  repeat' (first | (refine XL_id ?_; first | refine XL_nil ?_ | (refine XG_load ?_; refine XL_load tt_ok 1 rfl rfl rfl rfl rfl rfl ?_) | (refine XG_box ?_; (refine XL_box rfl (fun _ => rfl) (fun _ => ?_); refine XL_nB (by repeat' (first | exact .nil | apply NL.cons)) ?_)) | (refine XG_build ?_; (refine XL_build tt_ok rfl rfl rfl rfl rfl rfl rfl ?_; refine XL_aggN (by repeat' (first | exact .nil | apply NL.cons)) ?_)) | (refine XG_alloc ?_; (refine XL_alloc tt_ok rfl rfl (fun _ => rfl) (fun b => ?_); refine XL_nB (by repeat' (first | exact .nil | apply NL.cons)) ?_)) | (refine XG_store ?_; (refine XL_storeW tt_ok 0 rfl rfl rfl rfl rfl rfl rfl ?_; refine XL_nK 0 rfl (by repeat' (first | exact .nil | apply NL.cons)) ?_)) | (refine XL_op tt_ok rfl rfl ?_)) | (refine X_id ?_; first | refine X_seq ?_ | (refine X_regionN (by repeat' (first | exact .nil | apply NL.cons)) ?_) | refine X_ret ?_) | (refine Y_id ?_; refine Y_then ?_))
  exact Y_res1 rfl (.cell tt_ok 0 rfl rfl rfl rfl rfl) (L' := []) (fun _ _ => trivial) ⟨rfl, rfl⟩
theorem asked_spec (p : Nat) (n : Int) (A : Option Addr) (m c : Nat) (a pg : Int) (hn : n ≠ 0) : FnC Try.prog 33 [ptr p, kyV a pg] (tlbB p n A m c) (.int .i64 (askE a pg)) := by
  refine Ctr.intro Try.func33 rfl rfl (by decide +kernel) fun F hpre => ?_
  by_cases h : 0 ≤ a ∧ a < 128 ∧ 0 ≤ pg ∧ pg < 1048576
  · rw [show askE a pg = 0 from if_pos h]
    repeat' (first | (refine XL_id ?_; first | refine XL_nil ?_ | refine XL_guard_yes rfl rfl rfl ?_ | (refine XG_load ?_; first | refine XL_load tt_ok 0 rfl rfl rfl rfl rfl rfl ?_ | refine XL_loadF tt_ok rfl (by assumption) rfl rfl rfl rfl ?_) | (refine XG_box ?_; (refine XL_box rfl (fun _ => rfl) (fun _ => ?_); refine XL_nB (by repeat' (first | exact .nil | apply NL.cons)) ?_)) | (refine XL_op tt_ok rfl rfl ?_; try (refine XL_dec_f (by omega) ?_))) | (refine X_id ?_; first | refine X_seq ?_ | (refine X_regionN (by repeat' (first | exact .nil | apply NL.cons)) ?_) | refine X_skip ?_ | refine X_ret ?_ | refine X_cond_f rfl ?_) | (refine Y_id ?_; refine Y_then ?_))
    all_goals first
      | exact Y_fn1 rfl rfl rfl
      | (exfalso; omega)
  · rw [show askE a pg = 2 from if_neg h]
    repeat' (first | (refine XL_id ?_; first | refine XL_nil ?_ | refine XL_guard_yes rfl rfl rfl ?_ | refine XL_guard_no rfl rfl rfl rfl rfl ?_ | (refine XG_load ?_; first | refine XL_load tt_ok 0 rfl rfl rfl rfl rfl rfl ?_ | refine XL_loadF tt_ok rfl (by assumption) rfl rfl rfl rfl ?_) | (refine XG_box ?_; (refine XL_box rfl (fun _ => rfl) (fun _ => ?_); refine XL_nB (by repeat' (first | exact .nil | apply NL.cons)) ?_)) | (refine XL_op tt_ok rfl rfl ?_; try (first | refine XL_dec_t (by omega) ?_ | refine XL_dec_f (by omega) ?_ | refine XL_dec (fun _ => ?_) (fun _ => ?_)))) | (refine X_id ?_; first | refine X_seq ?_ | (refine X_regionN (by repeat' (first | exact .nil | apply NL.cons)) ?_) | refine X_skip ?_ | refine X_ret ?_ | refine X_cond_t rfl ?_ | refine X_cond_f rfl ?_) | (refine Y_id ?_; first | refine Y_then ?_ | refine Y_then_ret ?_))
    all_goals first
      | exact Y_fn1 rfl rfl rfl
      | (exfalso; omega)
theorem closK_spec (kb : Nat) (a pg : Int) (x : Tr) : FnC Try.prog 53 [trV x, ptr kb] (kyB kb a pg) (.bool (kB a pg x)) := by
  refine Ctr.intro Try.func53 rfl rfl (by decide +kernel) fun F hpre => ?_
  repeat' (first | (refine XL_id ?_; first | refine XL_nil ?_ | (refine XG_box ?_; (refine XL_box rfl (fun _ => rfl) (fun _ => ?_); refine XL_nB (by repeat' (first | exact .nil | apply NL.cons)) ?_)) | (refine XG_call ?_; refine XL_fn (of_spec x) rfl rfl (fun _ _ _ => trivial) ?_) | (refine XL_op tt_ok rfl rfl ?_)) | (refine XD_id ?_; first | (refine XD_thaw thaw ?_; refine XD_nil ?_) | (refine XD_id ?_; (first | (refine XD_uL rfl ?_; first | refine XD_s rfl rfl rfl (XV_loadW tt_ok rfl (blk_at 0 rfl hM) rfl rfl rfl) rfl ?_ | refine XD_s rfl rfl rfl (XV_loadW tt_ok rfl (blk_le (by assumption) hFG) rfl rfl rfl) rfl ?_) | (refine XD_u rfl rfl ?_; first | refine XD_s rfl rfl rfl (XV_op tt_ok rfl) rfl ?_ | refine XD_s rfl rfl rfl (XV_eq (a := (⟨x.a, x.p⟩ : Ky)) (b := (⟨a, pg⟩ : Ky)) eqKy rfl rfl) rfl ?_)); try (refine XD_dec (fun _ => ?_) (fun _ => ?_))) | refine XD_m rfl rfl ?_) | (refine X_id ?_; first | (refine X_drawS (id := 1) [0, 2, 1, 3, 4] (fun | 1 => .m | _ => .s) 8 (by repeat' (first | exact Split.nil | apply Split.blk)) mixed (by decide +kernel) ?_; intro G hFG hM thaw; show XD _ _ _ _ _ _ [0, 2, 1, 3, 4] _ _ _) | refine X_seq ?_ | (refine X_regionN (by repeat' (exact .nil)) ?_) | refine X_ret ?_) | (refine Y_id ?_; first | refine Y_then ?_ | refine Y_m ?_))
  all_goals first
    | exact Y_fn1 rfl rfl (by rw [ky_dec])
    | (refine Y_fn1 rfl rfl ?_; rw [← ky_dec]; first | exact bool_t (by assumption) | exact bool_f (by assumption))
    | skip
  
theorem closE_spec (x : Tr) : FnC Try.prog 50 [trV x] (fun _ => True) (.bool true) := by
  refine Ctr.intro Try.func50 rfl rfl (by decide +kernel) fun F hpre => ?_
  repeat' (first | (refine XL_id ?_; first | refine XL_nil ?_ | (refine XG_box ?_; (refine XL_box rfl (fun _ => rfl) (fun _ => ?_); refine XL_nB (by repeat' (first | exact .nil | apply NL.cons)) ?_)) | (refine XL_op tt_ok rfl rfl ?_; try (refine XL_dec_t (by omega) ?_))) | (refine X_id ?_; first | refine X_seq ?_ | (refine X_regionN (by repeat' (first | exact .nil | apply NL.cons)) ?_) | refine X_ret ?_) | (refine Y_id ?_; refine Y_then ?_))
  exact Y_fn1 rfl rfl rfl
theorem at_spec (p : Nat) (n : Int) (A : Option Addr) (m c : Nat) (xs : List Tr) (a pg : Int) (hm : m ≤ 100000) : FnC Try.prog 35 [ptr p, kyV a pg] (fun h => tlbB p n A m c h ∧ rdS encTr h A m xs) (.int .i64 (idxI (kB a pg) xs)) := by
  have hix := fun kb : Nat => index_spec A m c xs 53 #[ptr kb] (kyB kb a pg) (kB a pg) (by omega) (fun _ _ hl hb => blk_le hb hl) (fun x => closK_spec kb a pg x)
  refine Ctr.intro Try.func35 rfl rfl (by decide +kernel) fun F hpre => ?_
  obtain ⟨hb, hr⟩ := hpre
  repeat' (first | (refine XL_id ?_; first | refine XL_nil ?_ | (refine XG_load ?_; refine XL_loadF tt_ok rfl (by assumption) rfl rfl rfl rfl ?_) | (refine XG_box ?_; (refine XL_box rfl (fun _ => rfl) (fun _ => ?_); refine XL_nB (by repeat' (first | exact .nil | apply NL.cons)) ?_)) | (refine XG_call ?_; refine XL_fn (hix _) rfl rfl (fun g hg hL => ⟨hr.le hg, blk_at 0 rfl hL⟩) ?_) | (refine XL_op tt_ok rfl rfl ?_)) | (refine X_id ?_; first | refine X_seq ?_ | (refine X_regionN (by repeat' (first | exact .nil | apply NL.cons)) ?_) | refine X_ret ?_) | (refine Y_id ?_; refine Y_then ?_))
  exact Y_fn1 rfl rfl rfl
def peekR (xs : List Tr) (a pg : Int) : Tr × Bool × Int := if askE a pg = 0 then (match xs.find? (kB a pg) with | some x => (x, true, 0) | none => (tr0, false, 0)) else (tr0, false, askE a pg)
abbrev peekV (x : Tr × Bool × Int) : Value := .tuple #[trV x.1, .bool x.2.1, .int .i64 x.2.2]
end Go.Proofs.Ythmllhihldbfoaa.Tl
