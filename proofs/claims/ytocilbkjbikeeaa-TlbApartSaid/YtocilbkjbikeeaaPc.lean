/- One's own translations among others, in plain lists. -/
import Derived.Test.YtocilbkjbikeeaaPb
set_option linter.unusedVariables false
namespace Go.Proofs.Ytocilbkjbikeeaa
open Go.RowKit Go.Cof

def five (ys : List Tr) : List Tr := ys.filter fun x => decide (x.a = 5)
def my (zs : List Tr) (k : Nat) : Tr := ⟨5, k, (Cof.get zs k).f % 4096, (Cof.get zs k).r, (Cof.get zs k).w, (Cof.get zs k).d⟩
def mineL (zs : List Tr) : Nat → List Tr
  | 0 => []
  | i + 1 => my zs i :: mineL zs i
theorem mine_len (zs : List Tr) : ∀ i, (mineL zs i).length = i
  | 0 => rfl
  | i + 1 => by unfold mineL; rw [List.length_cons, mine_len zs i]
theorem mine_mem {zs : List Tr} {x : Tr} : ∀ {i : Nat}, x ∈ mineL zs i → ∃ k, k < i ∧ x = my zs k
  | 0, h => by cases h
  | i + 1, h => by
    unfold mineL at h
    rcases List.mem_cons.1 h with e | h
    · exact ⟨i, Nat.lt_succ_self i, e⟩
    · obtain ⟨k, hk, e⟩ := mine_mem h
      exact ⟨k, by omega, e⟩
theorem my_mem {zs : List Tr} : ∀ {i k : Nat}, k < i → my zs k ∈ mineL zs i
  | 0, _, h => by omega
  | i + 1, k, h => by
    unfold mineL
    by_cases e : k = i
    · rw [e]; exact List.mem_cons_self
    · exact List.mem_cons_of_mem _ (my_mem (by omega))
theorem my_fillE (zs : List Tr) {k : Nat} (h : k < 20) : fillE (my zs k) = 0 := by
  unfold fillE
  rw [show askE (my zs k).a (my zs k).p = 0 from if_pos (by show 0 ≤ (5 : Int) ∧ (5 : Int) < 128 ∧ 0 ≤ (k : Int) ∧ (k : Int) < 1048576; omega), if_pos rfl, if_pos (by show 0 ≤ (Cof.get zs k).f % 4096 ∧ (Cof.get zs k).f % 4096 < 4096; omega)]
theorem my_fill (zs : List Tr) {i : Nat} (h : i < 20) : fillT 64 (mineL zs i) (my zs i) = mineL zs (i + 1) := by
  unfold fillT
  rw [if_pos (my_fillE zs h)]
  show _ = my zs i :: mineL zs i
  have e : rm (my zs i).a (my zs i).p (mineL zs i) = mineL zs i := List.filter_eq_self.2 fun x hx => by
    obtain ⟨k, hk, rfl⟩ := mine_mem hx
    cases hb : kB (my zs i).a (my zs i).p (my zs k) with
    | false => rfl
    | true =>
      have := (kB_iff.1 hb).2
      have h3 : (k : Int) = i := this
      omega
  rw [e, List.take_of_length_le (by rw [mine_len]; show i ≤ 63; omega)]
theorem mine_five (zs : List Tr) (i : Nat) : five (mineL zs i) = mineL zs i := List.filter_eq_self.2 fun x hx => by
  obtain ⟨k, _, rfl⟩ := mine_mem hx
  exact decide_eq_true rfl
theorem mine_find {zs ys : List Tr} {i k : Nat} (hu : Uniq ys) (hf : five ys = mineL zs i) (h : k < i) : ys.find? (kB 5 k) = some (my zs k) := by
  have h1 : my zs k ∈ five ys := by rw [hf]; exact my_mem h
  exact find_of_mem hu (List.mem_filter.1 h1).1 (kB_self (my zs k))
theorem five_cons {x : Tr} (h : ¬ x.a = 5) (ys : List Tr) : five (x :: ys) = five ys := List.filter_cons_of_neg (by simpa using h)
theorem five_rm {a : Int} (h : ¬ a = 5) (p : Int) (ys : List Tr) : five (rm a p ys) = five ys := by
  unfold five rm
  rw [List.filter_filter]
  refine List.filter_congr fun x _ => ?_
  by_cases hx : x.a = 5
  · have : kB a p x = false := by
      cases hb : kB a p x with
      | false => rfl
      | true => exact absurd ((kB_iff.1 hb).1.symm.trans hx) h
    rw [this]
    simp
  · rw [decide_eq_false hx]
    rfl
theorem five_fill {x : Tr} {ys : List Tr} (h : ¬ x.a = 5) (hl : ys.length ≤ 63) : five (fillT 64 ys x) = five ys ∧ (fillT 64 ys x).length ≤ ys.length + 1 := by
  have h1 := rm_len x.a x.p ys
  unfold fillT
  split
  · rw [List.take_of_length_le (by show _ ≤ 63; omega)]
    exact ⟨by rw [five_cons h, five_rm h], by rw [List.length_cons]; omega⟩
  · exact ⟨rfl, by omega⟩
theorem five_mark {a : Int} (h : ¬ a = 5) (p : Int) (ys : List Tr) : five (markT ys a p) = five ys ∧ (markT ys a p).length = ys.length := by
  unfold markT
  split
  · refine ⟨?_, by rw [List.length_map]⟩
    induction ys with
    | nil => rfl
    | cons y ys ih =>
      have hk := markX_key a p y
      by_cases hy : y.a = 5
      · have e : markX a p y = y := if_neg fun hb => h ((kB_iff.1 hb).1.symm.trans hy)
        rw [List.map_cons, e]
        unfold five at ih ⊢
        rw [List.filter_cons_of_pos (by simpa using hy), List.filter_cons_of_pos (by simpa using hy), ih]
      · rw [List.map_cons, five_cons (by rw [hk.1]; exact hy), five_cons hy, ih]
  · exact ⟨rfl, rfl⟩
theorem five_drop {a : Int} (h : ¬ a = 5) (p : Int) (ys : List Tr) : five (dropT ys a p) = five ys ∧ (dropT ys a p).length ≤ ys.length := by
  unfold dropT
  split
  · exact ⟨five_rm h p ys, rm_len a p ys⟩
  · exact ⟨rfl, Nat.le_refl _⟩
theorem five_dall {a : Int} (h : ¬ a = 5) (ys : List Tr) : five (dallT ys a) = five ys ∧ (dallT ys a).length ≤ ys.length := by
  unfold dallT
  split
  · refine ⟨?_, List.length_filter_le _ _⟩
    unfold five dropA
    rw [List.filter_filter]
    refine List.filter_congr fun x _ => ?_
    by_cases hx : x.a = 5
    · rw [decide_eq_true hx, decide_eq_false (show ¬ x.a = a from fun e => h (e.symm.trans hx))]
      rfl
    · rw [decide_eq_false hx]
      rfl
  · exact ⟨rfl, Nat.le_refl _⟩
theorem five_count : ∀ ys : List Tr, (five ys).length + (dropA ys 5).length = ys.length
  | [] => rfl
  | y :: ys => by
    have ih := five_count ys
    unfold five dropA at ih ⊢
    by_cases hy : y.a = 5
    · rw [List.filter_cons_of_pos (by simpa using hy), List.filter_cons_of_neg (by simpa using hy)]
      simp only [List.length_cons]
      omega
    · rw [List.filter_cons_of_neg (by simpa using hy), List.filter_cons_of_pos (by simpa using hy)]
      simp only [List.length_cons]
      omega
theorem dall_five {zs ys : List Tr} {i : Nat} (hf : five ys = mineL zs i) : dallN ys 5 = i := by
  have h := five_count ys
  rw [hf, mine_len] at h
  unfold dallN
  rw [if_pos (by decide)]
  omega
end Go.Proofs.Ytocilbkjbikeeaa
