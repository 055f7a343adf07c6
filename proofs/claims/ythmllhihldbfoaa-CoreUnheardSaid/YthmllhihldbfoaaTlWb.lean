/- Walk of the library's Reverse. -/
import Derived.Test.YthmllhihldbfoaaTlWa
set_option linter.unusedVariables false
namespace Go.Proofs.Ythmllhihldbfoaa.Tl
open Go.RowKit Go.Cof

theorem reverse_of {xs ys : List Tr} {m i : Nat} (hx : m = xs.length) (hy : ys.length = m) (hi : m ≤ 2 * i + 1) (h : ∀ k : Nat, k < m → Cof.get ys k = if k < i ∨ m ≤ k + i then Cof.get xs ((m - 1 - k : Nat) : Int) else Cof.get xs k) : ys = xs.reverse := by
  refine get_ext (by rw [List.length_reverse]; omega) fun k hk => ?_
  rw [h k (by omega), get_getElem (xs := xs.reverse) (i := k) (by rw [List.length_reverse]; omega), List.getElem_reverse]
  have e : xs[xs.length - 1 - k]'(by omega) = Cof.get xs ((m - 1 - k : Nat) : Int) := by
    subst hx
    exact (get_getElem (by omega)).symm
  rw [e]
  by_cases hc : k < i ∨ m ≤ k + i
  · rw [if_pos hc]
  · rw [if_neg hc]
    congr 1
    omega
theorem reverse_step {xs ys : List Tr} {m i : Nat} (hy : ys.length = m) (hi : 2 * i + 1 < m) (h : ∀ k : Nat, k < m → Cof.get ys k = if k < i ∨ m ≤ k + i then Cof.get xs ((m - 1 - k : Nat) : Int) else Cof.get xs k) {a b : Nat} (ha : a = i) (hb : b = m - 1 - i) {u v : Tr} (hu : u = Cof.get ys ((m - 1 - i : Nat) : Int)) (hv : v = Cof.get ys (i : Int)) :
    ∀ k : Nat, k < m → Cof.get ((ys.set a u).set b v) k = if k < i + 1 ∨ m ≤ k + (i + 1) then Cof.get xs ((m - 1 - k : Nat) : Int) else Cof.get xs k := by
  intro k hk
  subst ha hb hu hv
  rw [get_set (by rw [List.length_set]; omega)]
  by_cases h1 : m - 1 - a = k
  · rw [if_pos h1, if_pos (by omega), h a (by omega), if_neg (by omega)]
    congr 1
    omega
  · rw [if_neg h1, get_set (by omega)]
    by_cases h2 : a = k
    · rw [if_pos h2, if_pos (by omega), h _ (by omega), if_neg (by omega)]
      congr 1
      omega
    · rw [if_neg h2, h k hk]
      by_cases hc : k < a ∨ m ≤ k + a
      · rw [if_pos hc, if_pos (by omega)]
      · rw [if_neg hc, if_neg (by omega)]
end Go.Proofs.Ythmllhihldbfoaa.Tl
