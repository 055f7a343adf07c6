/- What a memory does, on its bytes. -/
import Derived.Test.YtookjknlfkmemaaTab
set_option linter.unusedVariables false
namespace Go.Proofs.Ytookjknlfkmemaa
open Go.RowKit Go.Cof

def byteAt (bs : List Int) (o : Nat) : Int := bs.getD o 0
/-- What is wrong with bytes that one wants. -/
def runE (N : Nat) (pa size : Int) : Int := if (N : Int) ≤ pa then 10 else if size < 1 ∨ 8 < size then 2 else if (N : Int) - pa < size then 10 else 0
def loadF (bs : List Int) (o : Nat) : Nat → Int
  | 0 => 0
  | k + 1 => loadF bs o k + byteAt bs (o + k) * 256 ^ k
def storeF (bs : List Int) (o : Nat) (v : Int) : Nat → List Int
  | 0 => bs
  | k + 1 => (storeF bs o v k).set (o + k) (v / 256 ^ k % 256)
/-- What is wrong with a frame. -/
def frameE (N : Nat) (f : Int) : Int := if f < 0 ∨ (N : Int) / 256 ≤ f then 2 else 0
def pageF (bs : List Int) (f : Int) : List Int := (bs.drop (f.toNat * 256)).take 256
def putF (bs : List Int) (f : Int) (ys : List Int) : List Int := bs.take (f.toNat * 256) ++ ys ++ bs.drop (f.toNat * 256 + 256)

/-- A memory's bytes: so many frames, each a byte. -/
structure Mem (bs : List Int) : Prop where
  ex : ∃ n : Nat, bs.length = n * 256 ∧ 1 ≤ n ∧ n ≤ 4096
  byte : ∀ x ∈ bs, 0 ≤ x ∧ x < 256
theorem Mem.le {bs : List Int} (h : Mem bs) : 256 ≤ bs.length ∧ bs.length ≤ 1048576 := by obtain ⟨n, h1, h2, h3⟩ := h.ex; omega
theorem Mem.div {bs : List Int} (h : Mem bs) : bs.length = bs.length / 256 * 256 ∧ 1 ≤ bs.length / 256 ∧ bs.length / 256 ≤ 4096 := by obtain ⟨n, h1, h2, h3⟩ := h.ex; omega
theorem Mem.at {bs : List Int} (h : Mem bs) (o : Nat) : 0 ≤ byteAt bs o ∧ byteAt bs o < 256 := by
  unfold byteAt
  rw [List.getD_eq_getElem?_getD]
  cases hx : bs[o]? with
  | none => simp
  | some x => exact h.byte x (List.mem_of_getElem? hx)
theorem Mem.set {bs : List Int} (h : Mem bs) (o : Nat) {x : Int} (h0 : 0 ≤ x) (h1 : x < 256) : Mem (bs.set o x) := by
  refine ⟨by simpa using h.ex, fun y hy => ?_⟩
  rcases List.mem_or_eq_of_mem_set hy with h2 | h2
  · exact h.byte y h2
  · subst h2; exact ⟨h0, h1⟩
theorem Mem.zero {n : Nat} (h1 : 1 ≤ n) (h2 : n ≤ 4096) : Mem (List.replicate (n * 256) 0) :=
  ⟨⟨n, by simp, h1, h2⟩, fun x hx => by rw [List.eq_of_mem_replicate hx]; decide⟩
theorem storeF_length (bs : List Int) (o : Nat) (v : Int) : ∀ k, (storeF bs o v k).length = bs.length
  | 0 => rfl
  | k + 1 => by simp only [storeF, List.length_set]; exact storeF_length bs o v k
theorem Mem.store {bs : List Int} (h : Mem bs) (o : Nat) (v : Int) : ∀ k, Mem (storeF bs o v k)
  | 0 => h
  | k + 1 => (Mem.store h o v k).set _ (Int.emod_nonneg _ (by decide)) (Int.emod_lt_of_pos _ (by decide))
theorem loadF_bd {bs : List Int} (h : Mem bs) (o : Nat) : ∀ k, 0 ≤ loadF bs o k ∧ loadF bs o k < 256 ^ k
  | 0 => by simp [loadF]
  | k + 1 => by
    have h1 := loadF_bd h o k
    have h2 := h.at (o + k)
    have hp := pow256_pos k
    have h3 : byteAt bs (o + k) * 256 ^ k ≤ 255 * 256 ^ k := Int.mul_le_mul_of_nonneg_right (by omega) (Int.le_of_lt hp)
    have h4 : 0 ≤ byteAt bs (o + k) * 256 ^ k := Int.mul_nonneg h2.1 (Int.le_of_lt hp)
    have h5 : (256 : Int) ^ (k + 1) = 256 ^ k * 256 := Int.pow_succ _ _
    simp only [loadF]
    omega
theorem pow256_le {k : Nat} (h : k ≤ 8) : (256 : Int) ^ k ≤ 18446744073709551616 := by
  have : k = 0 ∨ k = 1 ∨ k = 2 ∨ k = 3 ∨ k = 4 ∨ k = 5 ∨ k = 6 ∨ k = 7 ∨ k = 8 := by omega
  rcases this with rfl | rfl | rfl | rfl | rfl | rfl | rfl | rfl | rfl <;> decide
theorem pageF_length {bs : List Int} {f : Int} (h0 : 0 ≤ f) (h : f < (bs.length : Int) / 256) : (pageF bs f).length = 256 := by
  unfold pageF; rw [List.length_take, List.length_drop]; omega
theorem putF_length {bs ys : List Int} {f : Int} (h0 : 0 ≤ f) (h : f < (bs.length : Int) / 256) (hy : ys.length = 256) : (putF bs f ys).length = bs.length := by
  unfold putF; simp only [List.length_append, List.length_take, List.length_drop]; omega
theorem Mem.put {bs ys : List Int} {f : Int} (h : Mem bs) (h0 : 0 ≤ f) (h1 : f < (bs.length : Int) / 256) (hy : ys.length = 256) (hb : ∀ y ∈ ys, 0 ≤ y ∧ y < 256) : Mem (putF bs f ys) := by
  refine ⟨by rw [putF_length h0 h1 hy]; exact h.ex, fun y hm => ?_⟩
  unfold putF at hm
  rcases List.mem_append.1 hm with h2 | h2
  · rcases List.mem_append.1 h2 with h3 | h3
    · exact h.byte y (List.mem_of_mem_take h3)
    · exact hb y h3
  · exact h.byte y (List.mem_of_mem_drop h2)
theorem pageF_byte {bs : List Int} {f : Int} (h : Mem bs) : ∀ y ∈ pageF bs f, 0 ≤ y ∧ y < 256 := fun y hy => h.byte y (List.mem_of_mem_drop (List.mem_of_mem_take hy))
end Go.Proofs.Ytookjknlfkmemaa
