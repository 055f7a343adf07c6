/- FramesApart's walk. -/
import Derived.Test.YtookjknlfkmemaaWf
set_option linter.unusedVariables false
namespace Go.Proofs.Ytookjknlfkmemaa
open Go.RowKit Go.Cof

/-- A page of its own, as it was put: the first bytes of what came in, noughts behind. -/
def pad (xs : List Int) : List Int := xs.take 256 ++ List.replicate (256 - (xs.take 256).length) 0
theorem pad_length (xs : List Int) : (pad xs).length = 256 := by
  unfold pad
  rw [List.length_append, List.length_replicate, List.length_take]; omega
theorem pad_byte {xs : List Int} (h : ∀ x ∈ xs, 0 ≤ x ∧ x < 256) : ∀ x ∈ pad xs, 0 ≤ x ∧ x < 256 := fun x hx => by
  rcases List.mem_append.1 hx with h1 | h1
  · exact h x (List.mem_of_mem_take h1)
  · rw [List.eq_of_mem_replicate h1]; decide
theorem pad_copy (xs : List Int) (m : Nat) (hm : m = xs.length) : (List.replicate 256 (0 : Int)).take 0 ++ xs.take (Nat.min m 256) ++ (List.replicate 256 (0 : Int)).drop (0 + Nat.min m 256) = pad xs := by
  unfold pad
  rw [List.take_zero, List.nil_append, Nat.zero_add, List.drop_replicate, List.length_take, hm]
  have e : Nat.min xs.length 256 = min 256 xs.length := Nat.min_comm _ _
  rw [e]
  congr 1
  rw [← List.take_take, List.take_length]
theorem put_in (p : Nat) (bs : List Int) (f : Int) (A : Option Addr) (c : Nat) (ys r : List Int) (h0 : 0 ≤ f) (h1 : f < (bs.length : Int) / 256) (hl : bs.length ≤ 1048576) (hy : ∀ y ∈ ys, 0 ≤ y ∧ y < 256) (hr : putF bs f ys = r) :
    Ctr Try.prog 18 [.pointer (some ⟨p, 0, none⟩), .int .i64 f, .slice A 256 c] (fun h => rdS (encI .u8) h A 256 ys) [isMem p bs] (fun v L => v = .int .i64 0 ∧ L = [isMem p r]) := by
  have h := put_spec p bs f A 256 c ys (by omega) (by omega) (by decide) hy
  simp only [frameE_in h0 h1, if_true, hr] at h
  exact h
theorem zero_in (p : Nat) (bs : List Int) (f : Int) (h0 : 0 ≤ f) (h1 : f < (bs.length : Int) / 256) (hl : bs.length ≤ 1048576) :
    Ctr Try.prog 19 [.pointer (some ⟨p, 0, none⟩), .int .i64 f] (fun _ => True) [isMem p bs] (fun v L => v = .int .i64 0 ∧ L = [isMem p (putF bs f (List.replicate 256 0))]) := by
  have h := zero_spec p bs f (by omega) (by omega)
  rw [frameE_in h0 h1, if_pos rfl] at h
  exact h
end Go.Proofs.Ytookjknlfkmemaa
