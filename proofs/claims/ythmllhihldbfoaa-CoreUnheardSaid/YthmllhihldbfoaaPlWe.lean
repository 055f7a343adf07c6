/- The colours of a part: program and reference. -/
import Derived.Test.YthmllhihldbfoaaPlPa
set_option linter.unusedVariables false
namespace Go.Proofs.Ythmllhihldbfoaa.Pl
open Go.RowKit Go.Cof

theorem get_nat {α : Type} [Inhabited α] (l : List α) (i : Nat) : Cof.get l (i : Int) = l.getD i default := rfl
theorem get_dat {h : Hp} {d : Cd} {y : Ly} (r : CfR h d y) {i : Nat} (hi : i < y.pm) : (Cof.get y.ps (i : Int)).d = Cof.get d.ps (i : Int) := by
  have hl := r.ps.1
  rw [get_nat, get_nat, ← r.eq, List.getD_eq_getElem?_getD, List.getD_eq_getElem?_getD, List.getElem?_map, List.getElem?_eq_getElem (by omega)]
  rfl
theorem get_takeN {α : Type} [Inhabited α] (l : List α) {p i : Nat} (hi : i < p) : Cof.get (l.take p) (i : Int) = Cof.get l (i : Int) := by
  rw [get_nat, get_nat, List.getD_eq_getElem?_getD, List.getD_eq_getElem?_getD, List.getElem?_take_of_lt hi]
theorem get_memN {h : Hp} {d : Cd} {y : Ly} (r : CfR h d y) {i : Nat} (hi : i < y.pm) : Cof.get y.ps (i : Int) ∈ y.ps := get_mem' (by omega) (by have := r.ps.1; omega)
theorem cut_hiN {m c p : Nat} {k : IntKind} (h : p ≤ c) : Cut3 m c none (some (.int k (p : Int))) none 0 p c := Cut3.hi (m := m) (c := c) (k := k) (y := (p : Int)) (by omega) (by omega)
theorem Good.mk {d : Cd} {p i : Nat} {v : Int} (hv : Cof.get (Cof.get d.ps p).xs i = v) (h0 : ¬ v < 0) (h1 : ¬ d.co ≤ v) (h2 : 0 < i → Cof.get (Cof.get d.ps p).xs ((i - 1 : Nat) : Int) < v) (h3 : ∀ k, k < p → v ∉ (Cof.get d.ps k).xs) : Good d p i := by
  subst hv
  exact ⟨by omega, by omega, h2, h3⟩
set_option maxHeartbeats 8000000 in
theorem colours_spec (d : Cd) (y : Ly) (hf : y.Fit) (p : Nat) (hp : p < y.pm) : FnC Try.prog 60 [cfV d y, iV p] (fun h => CfR h d y) (.bool (decide (ColP d p))) := by
  refine Ctr.intro Try.func60 rfl rfl (by decide +kernel) fun F hpre => ?_
  have hpre : CfR F.heap d y := hpre
  have r1 := hpre.ps
  have hdat := get_dat hpre hp
  have r2 := hpre.xs _ (get_memN hpre hp)
  have hcap := hf.cap
  have hxf := hf.x _ (get_memN hpre hp)
  have hml := r2.1
  have hml2 : (Cof.get y.ps (p : Int)).m = (Cof.get d.ps (p : Int)).xs.length := by rw [hml, hdat]
  repeat' (first | (refine XL_id ?_; first | refine XL_nil ?_ | (refine XG_box ?_; (refine XL_box rfl (fun _ => rfl) (fun bx => ?_); refine XL_nB (by repeat' (first | exact .nil | apply NL.cons)) ?_)) | (refine XG_load ?_; first | refine XL_load tt_ok 0 rfl rfl rfl rfl rfl rfl ?_ | refine XL_el tt_ok rfl (by assumption) rfl (by omega) (by omega) rfl rfl rfl rfl ?_) | (refine XG_idx ?_; refine XL_idx tt_ok rfl rfl rfl rfl rfl (by assumption) (by omega) (by omega) rfl ?_) | (refine XL_op tt_ok rfl rfl ?_; try (refine XL_dec (fun _ => ?_) (fun _ => ?_)))) | (refine X_id ?_; first | refine X_cutD (c := .block 0 _) [5] (fun (_ : Unit) => []) (fun _ => [blk bx (cfL d y) 28]) (fun _ => ∀ j, j < (Cof.get y.ps (p : Int)).m → Good d p j) rfl (X_block (hold ?_)) (fun _ hj => ?_) | refine X_seq ?_ | (refine X_regionN (by repeat' (first | exact .nil | apply NL.cons)) ?_) | refine X_ret ?_) | (refine Y_id ?_; refine Y_then ?_))
  · intro _
    refine X_loopD [1, 2, 5, 16, 17] (fun (i : Nat) => [(18, .int .i64 i)]) (fun i => [blk bx (cfL d y) 28]) (fun i => i ≤ (Cof.get y.ps (p : Int)).m ∧ ∀ j, j < i → Good d p j) (fun i => (Cof.get y.ps (p : Int)).m - i) 0 rfl ⟨Nat.zero_le _, fun j hj => by omega⟩ (by (repeat' (first | exact trivial | refine And.intro rfl ?_)); done) (fun h hs => hs) ?_
    intro i hi
    obtain ⟨hi, hgd⟩ := hi
    by_cases hlt : i < (Cof.get y.ps (p : Int)).m
    · obtain ⟨v, hv⟩ : ∃ v, Cof.get (Cof.get y.ps (p : Int)).d.xs (i : Int) = v := ⟨_, rfl⟩
      have hv2 : Cof.get (Cof.get d.ps (p : Int)).xs (i : Int) = v := by rw [← hdat]; exact hv
      have hv3 : ∀ z, Cof.get (Cof.get d.ps (p : Int)).xs z = Cof.get (Cof.get y.ps (p : Int)).d.xs z := fun z => by rw [hdat]
      have hi1 : 0 < i → ((i - 1 : Nat) : Int) = (i : Int) - 1 := fun h => by omega
      repeat' (first | (refine XL_id ?_; first | refine XL_nil ?_ | refine XL_guard_yes rfl rfl rfl ?_ | refine XL_guard_no rfl rfl rfl rfl rfl ?_ | refine XL_guard_nou rfl rfl rfl rfl ?_ | (refine XG_slice ?_; refine XL_slice0 tt_ok rfl rfl rfl (cut_hiN (by omega)) rfl rfl rfl rfl ?_) | (refine XG_load ?_; first | refine XL_load tt_ok 0 rfl rfl rfl rfl rfl rfl ?_ | refine XL_el tt_ok rfl (by assumption) rfl (by omega) (by omega) rfl rfl rfl rfl ?_) | (refine XG_idx ?_; refine XL_idx tt_ok rfl rfl rfl rfl rfl (by assumption) (by omega) (by omega) rfl ?_) | (refine XL_op tt_ok rfl rfl ?_; try (first | refine XL_int (wrap_i64 (by omega) (by omega)) ?_ | refine XL_dec_t (by omega) ?_ | refine XL_dec (fun _ => ?_) (fun _ => ?_)))) | (refine X_id ?_; first | refine X_cutQ (c := .block 2 _) [1, 2, 5, 16, 17, 18] (fun (_ : Unit) => []) (fun _ => [blk bx (cfL d y) 28]) (fun _ => Good d p i) rfl (X_block (hold ?_)) (fun _ hg => ?_) | refine X_seq ?_ | (refine X_regionN (by repeat' (first | exact .nil | apply NL.cons)) ?_) | refine X_skip ?_ | refine X_ret ?_ | refine X_block ?_ | refine X_cond_t rfl ?_ | refine X_cond_f rfl ?_) | (refine Y_id ?_; first | refine Y_then ?_ | refine Y_then_ret ?_ | refine Y_block_normal ?_ | refine Y_block_ret ?_))
      all_goals first
        | (exfalso; omega)
        | exact Y_fn1 rfl rfl (bool_f (fun h => by have g := (h.2 i (by omega)).1; rw [hv3] at g; omega))
        | exact Y_fn1 rfl rfl (bool_f (fun h => by have g := (h.2 i (by omega)).2.1; rw [hv3] at g; omega))
        | exact Y_fn1 rfl rfl (bool_f (fun h => by have g := (h.2 i (by omega)).2.2.1 (by omega); rw [hi1 (by omega), hv3, hv3] at g; omega))
        | exact Y_again (i + 1) fun _ _ hf hs => ⟨⟨hlt, fun j hj => by by_cases hj2 : j < i; exact hgd j hj2; obtain rfl : j = i := (by omega); exact hg⟩, by show (Cof.get y.ps (p : Int)).m - (i + 1) < (Cof.get y.ps (p : Int)).m - i; omega, hf.sub (by (repeat' (first | exact trivial | refine And.intro rfl ?_)); done), hs⟩
        | skip
      all_goals (
        intro _
        clear r1
        have r3 := hpre.ps.take p (by omega)
        refine X_loopD [1, 2, 5, 7, 16, 17, 18, 47, 48] (fun (k : Nat) => [(49, .int .i64 k)]) (fun _ => [blk bx (cfL d y) 28]) (fun k => k ≤ p ∧ ∀ j, j < k → v ∉ (Cof.get d.ps (j : Int)).xs) (fun k => p - k) 0 rfl ⟨Nat.zero_le _, fun j hj => by omega⟩ (by (repeat' (first | exact trivial | refine And.intro rfl ?_)); done) (fun h hs => hs) ?_
        intro k hk
        obtain ⟨hk, hnot⟩ := hk
        by_cases hkp : k < p
        · have hkm : k < y.pm := by omega
          have hw : Cof.get (y.ps.take p) (k : Int) = Cof.get y.ps (k : Int) := get_takeN y.ps hkp
          have rk := hpre.xs _ (get_memN hpre hkm)
          rw [← hw] at rk
          have hkd := get_dat hpre hkm
          rw [← hw] at hkd
          have hkf := hf.x _ (get_memN hpre hkm)
          rw [← hw] at hkf
          have hct := containsI_spec (Cof.get (y.ps.take p) (k : Int)).A (Cof.get (y.ps.take p) (k : Int)).m (Cof.get (y.ps.take p) (k : Int)).c (Cof.get (y.ps.take p) (k : Int)).d.xs (Cof.get (Cof.get y.ps (p : Int)).d.xs (i : Int)) (by omega)
          rw [hkd] at hct rk
          repeat' (first | (refine XL_id ?_; first | refine XL_nil ?_ | (refine XG_load ?_; first | refine XL_load tt_ok 0 rfl rfl rfl rfl rfl rfl ?_ | refine XL_elW tt_ok rfl (by assumption) rfl (by omega) (by omega) rfl rfl rfl rfl ?_) | (refine XG_idx ?_; refine XL_idx tt_ok rfl rfl rfl rfl rfl (by assumption) (by omega) (by omega) rfl ?_) | (refine XG_call ?_; (refine XL_fn hct rfl rfl (fun g hg hL => rk.le hg) ?_; refine XL_dec (fun hin => ?_) (fun hin => ?_))) | (refine XG_alloc ?_; (refine XL_alloc tt_ok rfl rfl (fun _ => rfl) (fun b => ?_); refine XL_nB (by repeat' (first | exact .nil | apply NL.cons)) ?_)) | (refine XG_store ?_; (refine XL_storeW tt_ok 0 rfl rfl rfl rfl rfl rfl rfl ?_; refine XL_nK 0 rfl (by repeat' (first | exact .nil | apply NL.cons)) ?_)) | (refine XL_op tt_ok rfl rfl ?_; try (first | refine XL_int (wrap_i64 (by omega) (by omega)) ?_ | refine XL_dec_t (by omega) ?_))) | (refine X_id ?_; first | refine X_seq ?_ | (refine X_regionN (by repeat' (first | exact .nil | apply NL.cons)) ?_) | refine X_skip ?_ | refine X_ret ?_ | refine X_block ?_ | refine X_cond_t rfl ?_ | refine X_cond_f rfl ?_) | (refine Y_id ?_; first | refine Y_then ?_ | refine Y_then_ret ?_ | refine Y_block_normal ?_ | refine Y_block_ret ?_))
          all_goals first
            | exact Y_fn1 rfl rfl (bool_f (fun h => (h.2 i (by omega)).2.2.2 k hkp (by rw [hv2, ← hv]; exact hin)))
            | exact Y_again (k + 1) fun _ _ hf hs => ⟨⟨hkp, fun j hj => by by_cases hj2 : j < k; exact hnot j hj2; obtain rfl : j = k := (by omega); rw [← hv]; exact hin⟩, by show p - (k + 1) < p - k; omega, hf.sub (by (repeat' (first | exact trivial | refine And.intro rfl ?_)); done), hs.imp fun h hs => stars_only [1] rfl h hs⟩
            | skip
          
        · repeat' (first | (refine XL_id ?_; first | refine XL_nil ?_ | (refine XL_op tt_ok rfl rfl ?_; try (refine XL_dec_f (by omega) ?_))) | (refine X_id ?_; first | refine X_seq ?_ | (refine X_regionN (by repeat' (first | exact .nil | apply NL.cons)) ?_) | refine X_exit ?_ | refine X_cond_f rfl ?_) | (refine Y_id ?_; first | refine Y_then ?_ | refine Y_then_exit ?_ | refine Y_block_hit ?_))
          all_goals first
            | exact Y_again () fun _ _ hf hs => ⟨Good.mk hv2 (by rw [← hv]; assumption) (by rw [← hv]; assumption) (fun h0 => by rw [hi1 h0, hv3, ← hv]; omega) (fun j hj => hnot j (by omega)), hf.sub (by (repeat' (first | exact trivial | refine And.intro rfl ?_)); done), hs⟩
            | (exfalso; omega)
            | skip
          )
      
    · repeat' (first | (refine XL_id ?_; first | refine XL_nil ?_ | (refine XL_op tt_ok rfl rfl ?_; try (refine XL_dec_f (by omega) ?_))) | (refine X_id ?_; first | refine X_seq ?_ | (refine X_regionN (by repeat' (first | exact .nil | apply NL.cons)) ?_) | refine X_exit ?_ | refine X_cond_f rfl ?_) | (refine Y_id ?_; first | refine Y_then ?_ | refine Y_then_exit ?_ | refine Y_block_hit ?_))
      all_goals first
        | exact Y_again () fun _ _ hf hs => ⟨fun j hj => hgd j (by omega), hf.sub (by (repeat' (first | exact trivial | refine And.intro rfl ?_)); done), hs⟩
        | (exfalso; omega)
        | skip
      
  all_goals first
    | exact Y_fn1 rfl rfl (bool_t ⟨by omega, fun j hj2 => hj j (by omega)⟩)
    | exact Y_fn1 rfl rfl (bool_f (fun h => by have := h.1; omega))
    | skip
  
end Go.Proofs.Ythmllhihldbfoaa.Pl
