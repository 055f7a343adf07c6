/- A Disk in memory; its functions walked. -/
import Derived.Test.YtmegelkbipgjbaaWk
set_option linter.unusedVariables false
namespace Go.Proofs.Ytmegelkbipgjbaa
open Go.RowKit Go.Cof

abbrev ptr (p : Nat) : Value := .pointer (some ⟨p, 0, none⟩)
abbrev encU : Enc Int := Go.Cof.encI .u8
noncomputable def KI : Kk Try.prog 3 Int := Kk.int .i64 Try.underlying3
theorem KI_ok {x : Int} (h1 : -9223372036854775808 ≤ x) (h2 : x ≤ 9223372036854775807) : KI.ok x := ⟨h1, h2⟩
def pgV (xs : List Int) : Value := .agg (flat encU xs).toArray
def fOf (s : List (List Int)) (k : Int) : Option (List Int) := if 0 ≤ k ∧ Cof.get s k ≠ [] then some (Cof.get s k) else none
theorem fOf_some {s : List (List Int)} {k : Int} (h0 : 0 ≤ k) (h : Cof.get s k ≠ []) : fOf s k = some (Cof.get s k) := if_pos ⟨h0, h⟩
theorem fOf_none {s : List (List Int)} {k : Int} (h : Cof.get s k = []) : fOf s k = none := if_neg fun g => g.2 h
theorem getI_set {s : List (List Int)} {k j : Int} {v : List Int} (h0 : 0 ≤ k) (h1 : k < s.length) (hj : 0 ≤ j) : Cof.get (s.set k.toNat v) j = if k = j then v else Cof.get s j := by
  obtain ⟨a, rfl⟩ := Int.eq_ofNat_of_zero_le h0
  obtain ⟨b, rfl⟩ := Int.eq_ofNat_of_zero_le hj
  rw [show (a : Int).toNat = a from rfl, get_set (by omega)]
  by_cases e : a = b
  · subst e; rw [if_pos rfl, if_pos rfl]
  · rw [if_neg e, if_neg (fun h => e (by omega))]
theorem fOf_set {s : List (List Int)} {k : Int} {v : List Int} (h0 : 0 ≤ k) (h1 : k < s.length) (hv : v ≠ []) : (fun j => if k = j then some v else fOf s j) = fOf (s.set k.toNat v) := by
  funext j
  unfold fOf
  by_cases hj : 0 ≤ j
  · rw [getI_set h0 h1 hj]
    by_cases e : k = j
    · rw [if_pos e, if_pos e, if_pos ⟨hj, hv⟩]
    · rw [if_neg e, if_neg e]
  · rw [if_neg (show ¬ k = j from fun e => hj (e ▸ h0)), if_neg (fun h => hj h.1), if_neg (fun h => hj h.1)]
theorem fOf_del {s : List (List Int)} {k : Int} (h0 : 0 ≤ k) (h1 : k < s.length) : (fun j => if k = j then none else fOf s j) = fOf (s.set k.toNat []) := by
  funext j
  unfold fOf
  by_cases hj : 0 ≤ j
  · rw [getI_set h0 h1 hj]
    by_cases e : k = j
    · rw [if_pos e, if_pos e, if_neg (fun h => h.2 rfl)]
    · rw [if_neg e, if_neg e]
  · rw [if_neg (show ¬ k = j from fun e => hj (e ▸ h0)), if_neg (fun h => hj h.1), if_neg (fun h => hj h.1)]
theorem fOf_rep (n : Nat) : fOf (List.replicate n []) = fun _ => none := by
  funext j
  refine fOf_none ?_
  unfold Cof.get
  rw [List.getD_eq_getElem?_getD, List.getElem?_replicate]
  split <;> rfl
structure DOk (n : Nat) (s : List (List Int)) : Prop where
  len : s.length = n
  cap : n ≤ 1024
  pg : ∀ j : Nat, j < n → Cof.get s (j : Int) = [] ∨ (Cof.get s (j : Int)).length = 256
theorem DOk.set {n : Nat} {s : List (List Int)} (h : DOk n s) {k : Int} (h0 : 0 ≤ k) (h1 : k < n) {v : List Int} (hv : v = [] ∨ v.length = 256) : DOk n (s.set k.toNat v) := by
  refine ⟨by rw [List.length_set]; exact h.len, h.cap, fun j hj => ?_⟩
  rw [getI_set h0 (by rw [h.len]; exact h1) (by omega)]
  split
  · exact hv
  · exact h.pg j hj
theorem DOk.rep {n : Nat} (h : n ≤ 1024) : DOk n (List.replicate n []) := ⟨List.length_replicate, h, fun j hj => .inl (by unfold Cof.get; rw [List.getD_eq_getElem?_getD, List.getElem?_replicate]; split <;> rfl)⟩
theorem DOk.page {n : Nat} {s : List (List Int)} (h : DOk n s) {k : Int} (h0 : 0 ≤ k) (h1 : k < n) (hne : Cof.get s k ≠ []) : (Cof.get s k).length = 256 := by
  obtain ⟨a, rfl⟩ := Int.eq_ofNat_of_zero_le h0
  exact (h.pg a (by omega)).resolve_left hne
abbrev dkB (p : Nat) (n : Nat) (mb : Nat) : HProp := blk p [iV n, .map (some mb)] 51
def isDk (p n : Nat) (s : List (List Int)) : HProp := fun h => ∃ mb : Nat, DOk n s ∧ stars [dkB p n mb, isMp KI pgV mb (fOf s)] h
theorem isDk_mk {p n mb : Nat} {s : List (List Int)} {f : Int → Option (List Int)} (hf : f = fOf s) (h : DOk n s) : ∀ g, stars [dkB p n mb, isMp KI pgV mb f] g → isDk p n s g := fun g hs => ⟨mb, h, hf ▸ hs⟩
abbrev slotE (n k : Int) : Int := if 0 ≤ k ∧ k < n then 0 else 2
def wrE (n k : Int) (xs : List Int) : Int := if 0 ≤ k ∧ k < n ∧ xs.length = 256 then 0 else 2
def wrS (n k : Int) (xs : List Int) (s : List (List Int)) : List (List Int) := if 0 ≤ k ∧ k < n ∧ xs.length = 256 then s.set k.toNat xs else s
def rdE (n k : Int) (s : List (List Int)) : Int := if 0 ≤ k ∧ k < n then (if Cof.get s k = [] then 60 else 0) else 2
def erS (n k : Int) (s : List (List Int)) : List (List Int) := if rdE n k s = 0 then s.set k.toNat [] else s
theorem wrS_ok {n : Nat} {k : Int} {xs : List Int} {s : List (List Int)} (h : DOk n s) : DOk n (wrS n k xs s) := by
  unfold wrS
  split
  · rename_i g; exact h.set g.1 g.2.1 (.inr g.2.2)
  · exact h
theorem rdE_in {n k : Int} {s : List (List Int)} (h : rdE n k s = 0) : 0 ≤ k ∧ k < n ∧ Cof.get s k ≠ [] := by
  unfold rdE at h
  split at h
  · rename_i g
    split at h
    · cases h
    · rename_i g2; exact ⟨g.1, g.2, g2⟩
  · cases h
theorem erS_ok {n : Nat} {k : Int} {s : List (List Int)} (h : DOk n s) : DOk n (erS n k s) := by
  unfold erS
  split
  · rename_i g; exact h.set (rdE_in g).1 (rdE_in g).2.1 (.inl rfl)
  · exact h
/-! the walks -/
theorem new_bad (n : Int) (h : n < 0 ∨ 1024 < n) : FnC Try.prog 7 [iV n] (fun _ => True) (.tuple #[.pointer none, iV 2]) := by
  refine Ctr.intro Try.func7 rfl rfl (by decide +kernel) fun F hpre => ?_
  repeat' (first | (refine XL_id ?_; first | refine XL_nil ?_ | refine XL_guard_yes rfl rfl rfl ?_ | refine XL_guard_no rfl rfl rfl rfl rfl ?_ | (refine XL_op tt_ok rfl rfl ?_; try (first | refine XL_dec_t (by omega) ?_ | refine XL_dec (fun _ => ?_) (fun _ => ?_)))) | (refine X_id ?_; first | refine X_seq ?_ | (refine X_regionN (by repeat' (exact .nil)) ?_) | refine X_ret ?_ | refine X_cond_t rfl ?_) | (refine Y_id ?_; first | refine Y_then ?_ | refine Y_then_ret ?_))
  all_goals first
    | exact Y_fn2 rfl rfl rfl rfl
    | (exfalso; omega)
    | skip
  
theorem new_ok (n : Nat) (h : n ≤ 1024) : Ctr Try.prog 7 [iV n] (fun _ => True) [] (fun v L => ∃ p, v = .tuple #[ptr p, iV 0] ∧ L = [isDk p n (List.replicate n [])]) := by
  refine Ctr.intro Try.func7 rfl rfl (by decide +kernel) fun F hpre => ?_
  repeat' (first | (refine XL_id ?_; first | refine XL_nil ?_ | refine XL_guard_yes rfl rfl rfl ?_ | refine XL_mkMap KI pgV (fun _ => rfl) (fun mb => ?_) | (refine XG_box ?_; (refine XL_box rfl (fun _ => rfl) (fun _ => ?_); refine XL_nB (by repeat' (first | exact .nil | apply NL.cons)) ?_)) | (refine XG_build ?_; (refine XL_build tt_ok rfl rfl rfl rfl rfl rfl rfl ?_; refine XL_aggN (by repeat' (first | exact .nil | apply NL.cons)) ?_)) | (refine XL_op tt_ok rfl rfl ?_; try (refine XL_dec_f (by omega) ?_))) | (refine X_id ?_; first | refine X_seq ?_ | (refine X_regionN (by repeat' (exact .nil)) ?_) | refine X_skip ?_ | refine X_ret ?_ | refine X_cond_f rfl ?_) | (refine Y_id ?_; refine Y_then ?_))
  all_goals first
    | exact Y_ret2 rfl rfl rfl (stars_fin [0, 0] rfl (isDk_mk (fOf_rep n).symm (DOk.rep h))) ⟨_, rfl, rfl⟩
    | (exfalso; omega)
    | skip
  
theorem slots_spec (p n mb : Nat) : FnC Try.prog 15 [ptr p] (fun h => dkB p n mb h) (iV n) := by
  refine Ctr.intro Try.func15 rfl rfl (by decide +kernel) fun F hpre => ?_
  have hb : dkB p n mb F.heap := hpre
  repeat' (first | (refine XL_id ?_; first | refine XL_nil ?_ | (refine XG_load ?_; refine XL_loadF tt_ok rfl (by assumption) rfl rfl rfl rfl ?_) | (refine XL_op tt_ok rfl rfl ?_)) | (refine X_id ?_; first | refine X_seq ?_ | (refine X_regionN (by repeat' (exact .nil)) ?_) | refine X_skip ?_ | refine X_ret ?_ | refine X_cond_f rfl ?_) | (refine Y_id ?_; refine Y_then ?_))
  all_goals first
    | exact Y_fn1 rfl rfl rfl
    | skip
  
theorem slot_spec (p n mb : Nat) (k : Int) : FnC Try.prog 22 [ptr p, iV k] (fun h => dkB p n mb h) (iV (slotE n k)) := by
  refine Ctr.intro Try.func22 rfl rfl (by decide +kernel) fun F hpre => ?_
  have hb : dkB p n mb F.heap := hpre
  by_cases h : 0 ≤ k ∧ k < n
  · rw [show slotE n k = 0 from if_pos h]
    repeat' (first | (refine XL_id ?_; first | refine XL_nil ?_ | refine XL_guard_yes rfl rfl rfl ?_ | (refine XG_load ?_; refine XL_loadF tt_ok rfl (by assumption) rfl rfl rfl rfl ?_) | (refine XL_op tt_ok rfl rfl ?_; try (refine XL_dec_f (by omega) ?_))) | (refine X_id ?_; first | refine X_seq ?_ | (refine X_regionN (by repeat' (exact .nil)) ?_) | refine X_skip ?_ | refine X_ret ?_ | refine X_cond_f rfl ?_) | (refine Y_id ?_; refine Y_then ?_))
    all_goals first
      | exact Y_fn1 rfl rfl rfl
      | (exfalso; omega)
      | skip
    
  · rw [show slotE n k = 2 from if_neg h]
    repeat' (first | (refine XL_id ?_; first | refine XL_nil ?_ | refine XL_guard_yes rfl rfl rfl ?_ | refine XL_guard_no rfl rfl rfl rfl rfl ?_ | (refine XG_load ?_; refine XL_loadF tt_ok rfl (by assumption) rfl rfl rfl rfl ?_) | (refine XL_op tt_ok rfl rfl ?_; try (first | refine XL_dec_t (by omega) ?_ | refine XL_dec (fun _ => ?_) (fun _ => ?_)))) | (refine X_id ?_; first | refine X_seq ?_ | (refine X_regionN (by repeat' (exact .nil)) ?_) | refine X_skip ?_ | refine X_ret ?_ | refine X_cond_t rfl ?_ | refine X_cond_f rfl ?_) | (refine Y_id ?_; first | refine Y_then ?_ | refine Y_then_ret ?_))
    all_goals first
      | exact Y_fn1 rfl rfl rfl
      | (exfalso; omega)
      | skip
    
end Go.Proofs.Ytmegelkbipgjbaa
