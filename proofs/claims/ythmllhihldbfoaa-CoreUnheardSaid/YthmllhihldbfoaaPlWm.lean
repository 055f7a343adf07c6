/- Slots, Base, Owner: the program's. -/
import Derived.Test.YthmllhihldbfoaaPlWl
set_option linter.unusedVariables false
namespace Go.Proofs.Ythmllhihldbfoaa.Pl
open Go.RowKit Go.Cof

def smF (l : List Pd) : Nat → Int
  | 0 => 0
  | n + 1 => smF l n + (Cof.get l (n : Int)).k
theorem smF_rng {l : List Pd} : ∀ {n : Nat}, (∀ i, i < n → 1 ≤ (Cof.get l (i : Int)).k ∧ (Cof.get l (i : Int)).k ≤ 1024) → 0 ≤ smF l n ∧ smF l n ≤ 1024 * n
  | 0, _ => ⟨Int.le_refl _, Int.le_refl _⟩
  | n + 1, h => by
    have h1 := smF_rng (fun i hi => h i (by omega) : ∀ i, i < n → 1 ≤ (Cof.get l (i : Int)).k ∧ (Cof.get l (i : Int)).k ≤ 1024)
    have h2 := h n (by omega)
    unfold smF
    omega
theorem MayF.k {d : Cd} (h : MayF d) (i : Nat) (hi : i < d.ps.length) : 1 ≤ (Cof.get d.ps (i : Int)).k ∧ (Cof.get d.ps (i : Int)).k ≤ 1024 := (h.part i hi).2.1.k
set_option maxHeartbeats 4000000 in
theorem slots_spec (A : Option Addr) (m c : Nat) (pts : List Pt) (l : List Pd) (hm : m ≤ 8) (heq : ∀ i, i < m → (Cof.get pts (i : Int)).d = Cof.get l (i : Int)) (hk : ∀ i, i < m → 1 ≤ (Cof.get l (i : Int)).k ∧ (Cof.get l (i : Int)).k ≤ 1024) : FnC Try.prog 37 [.slice A m c] (fun h => rdS encPt h A m pts) (iV (smF l m)) := by
  refine Ctr.intro Try.func37 rfl rfl (by decide +kernel) fun F hpre => ?_
  have r1 : rdS encPt F.heap A m pts := hpre
  repeat' (first | (refine XL_id ?_; first | refine XL_nil ?_ | (refine XL_op tt_ok rfl rfl ?_)) | (refine X_id ?_; first | refine X_cutD (c := .block 0 _) [] (fun (_ : Unit) => [(3, iV (smF l m))]) (fun _ => []) (fun _ => True) rfl (X_block (hold ?_)) (fun _ _ => ?_) | refine X_seq ?_ | (refine X_regionN (by repeat' (exact .nil)) ?_) | refine X_ret ?_) | (refine Y_id ?_; refine Y_then ?_))
  · intro _
    refine X_loopD [6, 7] (fun (i : Nat) => [(8, .int .i64 i), (3, iV (smF l i))]) (fun i => []) (fun i => i ≤ m) (fun i => m - i) 0 rfl (Nat.zero_le _) (by (repeat' (first | exact trivial | refine And.intro rfl ?_)); done) (fun h hs => hs) ?_
    intro i hi
    have hi : i ≤ m := hi
    by_cases hlt : i < m
    · have hr := smF_rng (fun j hj => hk j (by omega) : ∀ j, j < i → 1 ≤ (Cof.get l (j : Int)).k ∧ (Cof.get l (j : Int)).k ≤ 1024)
      have hki := hk i hlt
      rw [← heq i hlt] at hki
      obtain ⟨S, hS⟩ : ∃ S, smF l (i + 1) = S := ⟨_, rfl⟩
      have hst : smF l i + (Cof.get pts (i : Int)).d.k = S := by rw [heq i hlt, ← hS]; rfl
      repeat' (first | (refine XL_id ?_; first | refine XL_nil ?_ | (refine XG_load ?_; first | refine XL_load tt_ok 0 rfl rfl rfl rfl rfl rfl ?_ | refine XL_elW tt_ok rfl (by assumption) rfl (by omega) (by omega) rfl rfl rfl rfl ?_) | (refine XG_idx ?_; refine XL_idx tt_ok rfl rfl rfl rfl rfl (by assumption) (by omega) (by omega) rfl ?_) | (refine XG_alloc ?_; (refine XL_alloc tt_ok rfl rfl (fun _ => rfl) (fun b => ?_); refine XL_nB (by repeat' (first | exact .nil | apply NL.cons)) ?_)) | (refine XG_store ?_; (refine XL_storeW tt_ok 0 rfl rfl rfl rfl rfl rfl rfl ?_; refine XL_nK 0 rfl (by repeat' (first | exact .nil | apply NL.cons)) ?_)) | (refine XL_op tt_ok rfl rfl ?_; refine XL_int (Eq.trans (wrap_i64 (by omega) (by omega)) hst) ?_) | (refine XL_op tt_ok rfl rfl ?_; try (first | refine XL_int (wrap_i64 (by omega) (by omega)) ?_ | refine XL_dec_t (by omega) ?_))) | (refine X_id ?_; first | refine X_seq ?_ | (refine X_regionN (by repeat' (first | exact .nil | apply NL.cons)) ?_) | refine X_skip ?_ | refine X_block ?_ | refine X_cond_t rfl ?_) | (refine Y_id ?_; first | refine Y_then ?_ | refine Y_block_normal ?_))
      all_goals first
        | (subst hS; exact Y_again (i + 1) fun _ _ hf hs => ⟨hlt, by show m - (i + 1) < m - i; omega, hf.sub (by (repeat' (first | exact trivial | refine And.intro rfl ?_)); done), hs.imp fun _ _ => trivial⟩)
        | (exfalso; omega)
        | skip
      
    · obtain rfl : i = m := by omega
      repeat' (first | (refine XL_id ?_; first | refine XL_nil ?_ | (refine XL_op tt_ok rfl rfl ?_; try (refine XL_dec_f (by omega) ?_))) | (refine X_id ?_; first | refine X_seq ?_ | (refine X_regionN (by repeat' (exact .nil)) ?_) | refine X_exit ?_ | refine X_cond_f rfl ?_) | (refine Y_id ?_; first | refine Y_then ?_ | refine Y_then_exit ?_ | refine Y_block_hit ?_))
      all_goals first
        | exact Y_again () fun _ _ hf hs => ⟨trivial, hf.sub (by (repeat' (first | exact trivial | refine And.intro rfl ?_)); done), hs⟩
        | (exfalso; omega)
        | skip
      
  all_goals first
    | exact Y_fn1 rfl rfl rfl
    | skip
  
def basE (d : Cd) (p : Int) : Int := if thE d p = 0 then smF d.ps p.toNat else 0
def sltE (d : Cd) : Int × Int := if MayP d then (smF d.ps d.ps.length, 0) else (0, 5)
theorem Slots_spec (d : Cd) (y : Ly) (hd : d.In) (hf : y.Fit) (hl : d.ps.length = y.pm) : FnC Try.prog 17 [cfV d y] (fun h => CfR h d y) (.tuple #[iV (sltE d).1, iV (sltE d).2]) := by
  have hma := may_spec d y hd hf hl
  unfold sltE
  by_cases h : MayP d
  · have hm := MayP.all h
    have hps := hm.mach.ps
    rw [if_pos h]
    rw [decide_eq_true h] at hma
    show FnC Try.prog 17 [cfV d y] (fun h => CfR h d y) (.tuple #[iV (smF d.ps d.ps.length), iV 0])
    rw [hl]
    refine Ctr.intro Try.func17 rfl rfl (by decide +kernel) fun F hpre => ?_
    have hpre : CfR F.heap d y := hpre
    have hso := slots_spec y.pA y.pm y.pc y.ps d.ps (by omega) (fun i hi => get_dat hpre hi) (fun i hi => hm.k i (by omega))
    repeat' (first | (refine XL_id ?_; first | refine XL_nil ?_ | (refine XG_load ?_; first | refine XL_loadW tt_ok 0 rfl rfl rfl rfl rfl rfl ?_ | refine XL_load tt_ok 0 rfl rfl rfl rfl rfl rfl ?_) | (refine XG_box ?_; (refine XL_box rfl (fun _ => rfl) (fun _ => ?_); refine XL_nB (by repeat' (first | exact .nil | apply NL.cons)) ?_)) | (refine XG_call ?_; first | refine XL_fn hma rfl rfl (fun g hg hL => CfR.le hpre hg) ?_ | refine XL_fn hso rfl rfl (fun g hg hL => hpre.ps.le hg) ?_) | (refine XL_op tt_ok rfl rfl ?_)) | (refine X_id ?_; first | refine X_seq ?_ | (refine X_regionN (by repeat' (first | exact .nil | apply NL.cons)) ?_) | refine X_skip ?_ | refine X_ret ?_ | refine X_cond_f rfl ?_) | (refine Y_id ?_; refine Y_then ?_))
    all_goals first
      | exact Y_fn2 rfl rfl rfl rfl
      | (exfalso; omega)
      | skip
    
  · rw [if_neg h]
    rw [decide_eq_false h] at hma
    refine Ctr.intro Try.func17 rfl rfl (by decide +kernel) fun F hpre => ?_
    repeat' (first | (refine XL_id ?_; first | refine XL_nil ?_ | (refine XG_load ?_; refine XL_loadW tt_ok 0 rfl rfl rfl rfl rfl rfl ?_) | (refine XG_box ?_; (refine XL_box rfl (fun _ => rfl) (fun _ => ?_); refine XL_nB (by repeat' (first | exact .nil | apply NL.cons)) ?_)) | (refine XG_call ?_; refine XL_fn hma rfl rfl (fun g hg hL => CfR.le hpre hg) ?_) | (refine XL_op tt_ok rfl rfl ?_)) | (refine X_id ?_; first | refine X_seq ?_ | (refine X_regionN (by repeat' (first | exact .nil | apply NL.cons)) ?_) | refine X_ret ?_ | refine X_cond_t rfl ?_) | (refine Y_id ?_; first | refine Y_then ?_ | refine Y_then_ret ?_))
    all_goals first
      | exact Y_fn2 rfl rfl rfl rfl
      | (exfalso; omega)
      | skip
    
end Go.Proofs.Ythmllhihldbfoaa.Pl
