/- Calls in range; FramesLast's walk. -/
import Derived.Test.YtookjknlfkmemaaWd
set_option linter.unusedVariables false
namespace Go.Proofs.Ytookjknlfkmemaa
open Go.RowKit Go.Cof

theorem runE_in {N : Nat} {pa size : Int} (h0 : pa + size ≤ N) (h1 : 1 ≤ size) (h2 : size ≤ 8) : runE N pa size = 0 := by
  unfold runE
  rw [if_neg (by omega), if_neg (by omega), if_neg (by omega)]
theorem setByte_in (p : Nat) (bs : List Int) (pa c : Int) (h0 : 0 ≤ pa) (h1 : pa < bs.length) (hl : bs.length ≤ 1048576) (hc0 : 0 ≤ c) (hc1 : c < 256) :
    Ctr Try.prog 10 [.pointer (some ⟨p, 0, none⟩), .int .u64 pa, .int .u8 c] (fun _ => True) [isMem p bs] (fun v L => v = .int .i64 0 ∧ L = [isMem p (bs.set pa.toNat c)]) := by
  have h := setByte_spec p bs pa c h0 (by omega) hc0 hc1
  rw [runE_in (by omega) (by decide) (by decide), if_pos rfl] at h
  exact h
theorem byte_in (p : Nat) (bs : List Int) (pa : Int) (h0 : 0 ≤ pa) (h1 : pa < bs.length) (hl : bs.length ≤ 1048576) :
    Ctr Try.prog 12 [.pointer (some ⟨p, 0, none⟩), .int .u64 pa] (fun _ => True) [isMem p bs] (fun v L => v = .tuple #[.int .u8 (Cof.get bs pa), .int .i64 0] ∧ L = [isMem p bs]) := by
  have h := byte_spec p bs pa h0 (by omega)
  rw [runE_in (by omega) (by decide) (by decide), if_pos rfl] at h
  exact h
theorem store_in (p : Nat) (bs : List Int) (pa size v : Int) (h0 : 0 ≤ pa) (h1 : pa + size ≤ bs.length) (hl : bs.length ≤ 1048576) (hs1 : 1 ≤ size) (hs2 : size ≤ 8) (hv0 : 0 ≤ v) (hv1 : v < 18446744073709551616) :
    Ctr Try.prog 11 [.pointer (some ⟨p, 0, none⟩), .int .u64 pa, .int .i64 size, .int .u64 v] (fun _ => True) [isMem p bs] (fun u L => u = .int .i64 0 ∧ L = [isMem p (storeF bs pa.toNat v size.toNat)]) := by
  have h := store_spec p bs pa size v h0 (by omega) (by omega) (by omega) hv0 hv1
  rw [runE_in (by omega) hs1 hs2, if_pos rfl] at h
  exact h
theorem load_in (p : Nat) (bs : List Int) (pa size r : Int) (h0 : 0 ≤ pa) (h1 : pa + size ≤ bs.length) (hl : bs.length ≤ 1048576) (hs1 : 1 ≤ size) (hs2 : size ≤ 8) (hr : loadF bs pa.toNat size.toNat = r) :
    Ctr Try.prog 13 [.pointer (some ⟨p, 0, none⟩), .int .u64 pa, .int .i64 size] (fun _ => True) [isMem p bs] (fun u L => u = .tuple #[.int .u64 r, .int .i64 0] ∧ L = [isMem p bs]) := by
  have h := load_spec p bs pa size h0 (by omega) (by omega) (by omega)
  rw [runE_in (by omega) hs1 hs2, if_pos rfl, hr] at h
  exact h
theorem frameE_in {N : Nat} {f : Int} (h0 : 0 ≤ f) (h1 : f < (N : Int) / 256) : frameE N f = 0 := by
  unfold frameE
  rw [if_neg (by omega)]
theorem copy_in (p : Nat) (bs : List Int) (to from_ : Int) (h0 : 0 ≤ to) (h1 : to < (bs.length : Int) / 256) (h2 : 0 ≤ from_) (h3 : from_ < (bs.length : Int) / 256) (hl : bs.length ≤ 1048576) :
    Ctr Try.prog 14 [.pointer (some ⟨p, 0, none⟩), .int .i64 to, .int .i64 from_] (fun _ => True) [isMem p bs] (fun v L => v = .int .i64 0 ∧ L = [isMem p (putF bs to (pageF bs from_))]) := by
  have h := copy_spec p bs to from_ (by omega) (by omega) (by omega) (by omega)
  rw [show copyE bs.length to from_ = 0 from by unfold copyE; rw [frameE_in h0 h1, if_pos rfl, frameE_in h2 h3], if_pos rfl] at h
  exact h
theorem page_in (p : Nat) (bs : List Int) (f : Int) (ys : List Int) (h0 : 0 ≤ f) (h1 : f < (bs.length : Int) / 256) (hl : bs.length ≤ 1048576) (hy : pageF bs f = ys) :
    Ctr Try.prog 15 [.pointer (some ⟨p, 0, none⟩), .int .i64 f] (fun _ => True) [isMem p bs] (fun v L => ∃ b, v = .tuple #[.slice (some ⟨b, 0, none⟩) 256 256, .int .i64 0] ∧ L = [own (encI .u8) (some ⟨b, 0, none⟩) 256 256 ys, isMem p bs]) := by
  have h := pageOf_spec p bs f (by omega) (by omega)
  simp only [frameE_in h0 h1, if_true, hy] at h
  exact h

/-! bytes -/
theorem byteAt_set {bs : List Int} {o i : Nat} {x : Int} (h : o < bs.length) : byteAt (bs.set o x) i = if o = i then x else byteAt bs i := by
  unfold byteAt
  rw [List.getD_eq_getElem?_getD, List.getD_eq_getElem?_getD, List.getElem?_set]
  by_cases hi : o = i
  · subst hi; simp [h]
  · simp [hi]
theorem byteAt_storeF {bs : List Int} {o : Nat} {v : Int} : ∀ {k i : Nat}, o + k ≤ bs.length → byteAt (storeF bs o v k) i = if o ≤ i ∧ i < o + k then v / 256 ^ (i - o) % 256 else byteAt bs i
  | 0, i, _ => by rw [if_neg (by omega)]; rfl
  | k + 1, i, h => by
    show byteAt ((storeF bs o v k).set (o + k) _) i = _
    rw [byteAt_set (by rw [storeF_length]; omega), byteAt_storeF (by omega)]
    by_cases h1 : o + k = i
    · subst h1
      rw [if_pos rfl, if_pos (by omega), Nat.add_sub_cancel_left]
    · rw [if_neg h1]
      by_cases h2 : o ≤ i ∧ i < o + k
      · rw [if_pos h2, if_pos (by omega)]
      · rw [if_neg h2, if_neg (by omega)]
theorem loadF_eq {bs : List Int} {o : Nat} {v : Int} (hv : 0 ≤ v) : ∀ {k : Nat}, (∀ j, j < k → byteAt bs (o + j) = v / 256 ^ j % 256) → loadF bs o k = v % 256 ^ k
  | 0, _ => by simp [loadF, Int.emod_one]
  | k + 1, h => by
    show loadF bs o k + byteAt bs (o + k) * 256 ^ k = _
    rw [loadF_eq hv fun j hj => h j (by omega), h k (by omega), Int.pow_succ]
    have hp := pow256_pos k
    have e1 := Int.mul_ediv_add_emod v (256 ^ k)
    have e2 := Int.mul_ediv_add_emod (v / 256 ^ k) 256
    have e3 := Int.emod_nonneg v (Int.ne_of_gt hp)
    have e4 := Int.emod_lt_of_pos v hp
    have e5 := Int.emod_nonneg (v / 256 ^ k) (b := 256) (by decide)
    have e6 := Int.emod_lt_of_pos (v / 256 ^ k) (b := 256) (by decide)
    have e7 : v = (256 ^ k * 256) * (v / 256 ^ k / 256) + (v % 256 ^ k + v / 256 ^ k % 256 * 256 ^ k) := by
      rw [Int.mul_assoc, Int.mul_comm (v / 256 ^ k % 256)]
      have : (256 : Int) ^ k * (256 * (v / 256 ^ k / 256)) + (v % 256 ^ k + 256 ^ k * (v / 256 ^ k % 256)) = 256 ^ k * (256 * (v / 256 ^ k / 256) + v / 256 ^ k % 256) + v % 256 ^ k := by rw [Int.mul_add]; omega
      rw [this, e2, e1]
    have e8 : v / 256 ^ k % 256 * 256 ^ k ≤ 255 * 256 ^ k := Int.mul_le_mul_of_nonneg_right (by omega) (Int.le_of_lt hp)
    have e9 : 0 ≤ v / 256 ^ k % 256 * 256 ^ k := Int.mul_nonneg e5 (Int.le_of_lt hp)
    conv => rhs; rw [e7, Int.mul_comm _ (v / 256 ^ k / 256), Int.add_comm, Int.add_mul_emod_self_right]
    exact (Int.emod_eq_of_lt (by omega) (by omega)).symm
theorem load_store {bs : List Int} {o k : Nat} {v : Int} (hv : 0 ≤ v) (h : o + k ≤ bs.length) : loadF (storeF bs o v k) o k = v % 256 ^ k :=
  loadF_eq hv fun j hj => by rw [byteAt_storeF h, if_pos (by omega), Nat.add_sub_cancel_left]
theorem page_put {bs ys : List Int} {f : Int} (h0 : 0 ≤ f) (h1 : f < (bs.length : Int) / 256) (hy : ys.length = 256) : pageF (putF bs f ys) f = ys := by
  unfold pageF putF
  have e1 : (bs.take (f.toNat * 256)).length = f.toNat * 256 := by rw [List.length_take]; omega
  rw [List.append_assoc, List.drop_append_of_le_length (by omega), List.drop_of_length_le (by omega), List.nil_append, ← hy, List.take_left]
theorem page_set {bs : List Int} {f : Int} {o : Nat} {x : Int} (h : o < f.toNat * 256) : pageF (bs.set o x) f = pageF bs f := by
  unfold pageF
  rw [List.drop_set_of_lt (by omega)]
end Go.Proofs.Ytookjknlfkmemaa
