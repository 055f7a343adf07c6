/- A block's other half. The plain part of Give. -/
import Derived.Test.YtkcpjgdmfjhlkaaPb
set_option linter.unusedVariables false
namespace Go.Proofs.Ytkcpjgdmfjhlkaa
open Go.RowKit Go.Cof

theorem xor_nat {x y : Nat} (hx : x < 9223372036854775808) (hy : y < 9223372036854775808) (hxy : x ^^^ y < 9223372036854775808) : bits .xor .i64 (x : Int) (y : Int) = ((x ^^^ y : Nat) : Int) := by
  show IntKind.i64.wrap (((BitVec.ofInt 64 (x : Int) ^^^ BitVec.ofInt 64 (y : Int)).toNat : Nat) : Int) = _
  rw [BitVec.toNat_xor, nat_ofInt (by omega), nat_ofInt (by omega), wrap_i64 (by omega) (by omega)]
theorem xor_one (q : Nat) : q ^^^ 1 = if q % 2 = 0 then q + 1 else q - 1 := by
  have h1 : (q ^^^ 1) / 2 = q / 2 := by rw [Nat.xor_div_two]; simp
  have h2 : (q ^^^ 1) % 2 = 1 ↔ ¬ (q % 2 = 1 ↔ 1 % 2 = 1) := Nat.xor_mod_two_eq_one
  split
  · have : (q ^^^ 1) % 2 = 1 := h2.2 (by omega)
    omega
  · have : ¬ (q ^^^ 1) % 2 = 1 := fun h => h2.1 h (by omega)
    omega
def bud (c m : Nat) : Nat := if c / 2 ^ m % 2 = 0 then c + 2 ^ m else c - 2 ^ m
theorem xor_bud {c m : Nat} (hd : 2 ^ m ∣ c) : c ^^^ 2 ^ m = bud c m := by
  obtain ⟨q, rfl⟩ := hd
  have hp := two_pos m
  have e : (2 ^ m * q) ^^^ 2 ^ m = (q ^^^ 1) * 2 ^ m := by
    rw [← Nat.shiftLeft_eq, Nat.shiftLeft_xor_distrib, Nat.shiftLeft_eq, Nat.shiftLeft_eq, Nat.one_mul, Nat.mul_comm]
  rw [e, xor_one, bud, Nat.mul_div_cancel_left _ hp]
  split
  · rw [Nat.add_mul, Nat.one_mul, Nat.mul_comm]
  · obtain ⟨r, rfl⟩ : ∃ r, q = r + 1 := ⟨q - 1, by omega⟩
    rw [Nat.add_sub_cancel, Nat.mul_add, Nat.mul_one, Nat.add_sub_cancel, Nat.mul_comm]
theorem bud_two {c m : Nat} (hd : 2 ^ m ∣ c) : 2 ^ m ∣ bud c m ∧ ((bud c m = c + 2 ^ m ∧ par c m = c) ∨ (bud c m + 2 ^ m = c ∧ par c m = bud c m)) := by
  obtain ⟨q, rfl⟩ := hd
  have hp := two_pos m
  have hp1 := two_pos (m + 1)
  unfold bud par
  rw [Nat.mul_div_cancel_left _ hp]
  split
  · rename_i h
    refine ⟨⟨q + 1, by rw [Nat.mul_add, Nat.mul_one]⟩, .inl ⟨rfl, ?_⟩⟩
    refine Nat.div_mul_cancel ⟨q / 2, ?_⟩
    rw [Nat.pow_succ, Nat.mul_assoc, show 2 * (q / 2) = q by omega]
  · rename_i h
    obtain ⟨r, rfl⟩ : ∃ r, q = 2 * r + 1 := ⟨q / 2, by omega⟩
    have e : 2 ^ m * (2 * r + 1) = 2 ^ (m + 1) * r + 2 ^ m := by rw [Nat.mul_add, Nat.mul_one, Nat.pow_succ, Nat.mul_assoc]
    have hlt : 2 ^ m < 2 ^ (m + 1) := by rw [two_succ]; omega
    have e2 : (2 ^ m * (2 * r + 1)) / 2 ^ (m + 1) = r := by
      rw [e, Nat.add_comm, Nat.add_mul_div_left _ _ hp1, Nat.div_eq_of_lt hlt, Nat.zero_add]
    refine ⟨⟨2 * r, by rw [e, Nat.add_sub_cancel, Nat.pow_succ, Nat.mul_assoc]⟩, .inr ⟨?_, ?_⟩⟩
    · omega
    · rw [e2, e, Nat.add_sub_cancel, Nat.mul_comm]
theorem par_two {b m : Nat} (hd : 2 ^ m ∣ b) : b = par b m ∨ b = par b m + 2 ^ m := by
  have h1 := par_in hd
  have hs := two_succ m
  have hp := two_pos m
  obtain ⟨x, hx⟩ := hd
  obtain ⟨y, hy⟩ := Nat.dvd_trans (dvd_le (Nat.le_succ m)) (par_dvd b m)
  have f1 : y ≤ x := Nat.le_of_mul_le_mul_left (by omega) hp
  have f2 : x ≤ y + 1 := by
    apply Nat.le_of_mul_le_mul_left _ hp
    rw [Nat.mul_add, Nat.mul_one]; omega
  by_cases e : x = y
  · left; rw [hy, hx, e]
  · right
    have : x = y + 1 := by omega
    rw [hy, hx, this, Nat.mul_add, Nat.mul_one]
theorem bud_uniq {b c m : Nat} (hc : 2 ^ m ∣ c) (hb : 2 ^ m ∣ b) (h : par b m = par c m) : b = c ∨ b = bud c m := by
  have h1 := par_two hb
  have h2 := par_two hc
  have h3 := (bud_two hc).2
  omega
/-- How it stands while blocks come together. -/
structure Mg (op : List Bool) (a o c m : Nat) (fs gs : List (List Int)) : Prop where
  om : o ≤ m
  m6 : m ≤ 6
  lo : c ≤ a
  hi : a + 2 ^ o ≤ c + 2 ^ m
  fb : Fb (setN op a (2 ^ o) true) c m
  pl : Pl gs (fun b j => Mx op b j ∧ ¬ (c ≤ b ∧ b + 2 ^ j ≤ c + 2 ^ m))
  sum : sumF gs 7 + 2 ^ m = sumF fs 7 + 2 ^ o
section
variable {op : List Bool} {a o c m : Nat} {fs gs : List (List Int)}
theorem open_at (hl : a + 2 ^ o ≤ op.length) {i : Nat} : O (setN op a (2 ^ o) true) i ↔ (O op i ∨ (a ≤ i ∧ i < a + 2 ^ o)) := by
  rw [setN_at]
  by_cases h : a ≤ i ∧ i < a + 2 ^ o ∧ i < op.length
  · rw [if_pos h]; exact ⟨fun _ => .inr ⟨h.1, h.2.1⟩, fun _ => rfl⟩
  · rw [if_neg h]
    exact ⟨.inl, fun hh => hh.elim id fun g => absurd ⟨g.1, g.2, by omega⟩ h⟩
theorem Mg.start (hb : BOk op fs) (ho : o ≤ 6) (hd : 2 ^ o ∣ a) (hl : a + 2 ^ o ≤ op.length) (hc : ∀ i, a ≤ i → i < a + 2 ^ o → ¬ O op i) : Mg op a o a o fs fs := by
  have hpo := two_pos o
  refine ⟨Nat.le_refl _, ho, Nat.le_refl _, Nat.le_refl _, ⟨hd, fun i h1 h2 => (open_at hl).2 (.inr ⟨h1, h2⟩)⟩, hb.pl.iff fun b j hj => ⟨fun h => ⟨h, fun hh => ?_⟩, fun h => h.1⟩, rfl⟩
  have hpj := two_pos j
  exact hc b hh.1 (by omega) (h.1.2 b (Nat.le_refl _) (by omega))
theorem Mg.mem (h : Mg op a o c m fs gs) (hm : m < 6) (hl : a + 2 ^ o ≤ op.length) : ((bud c m : Nat) : Int) ∈ Cof.get gs (m : Int) ↔ Mx op (bud c m) m := by
  have hpm := two_pos m
  have hbt := (bud_two h.fb.1).2
  rw [h.pl.mem m (by omega)]
  constructor
  · rintro ⟨b, e, hb, _⟩
    have : bud c m = b := by omega
    rw [this]; exact hb
  · intro hb
    exact ⟨_, rfl, hb, fun hh => by omega⟩
theorem Mg.step (h : Mg op a o c m fs gs) (hm : m < 6) (hl : a + 2 ^ o ≤ op.length) (hc : ∀ i, a ≤ i → i < a + 2 ^ o → ¬ O op i) (hb : Mx op (bud c m) m) :
    Mg op a o (par c m) (m + 1) fs (gs.set m ((Cof.get gs (m : Int)).eraseIdx (rkI ((bud c m : Nat) : Int) (Cof.get gs (m : Int))))) := by
  have hpm := two_pos m
  have hpo := two_pos o
  have hs := two_succ m
  have hbt := (bud_two h.fb.1)
  have hpi := par_in h.fb.1
  have hlo := h.lo
  have hhi := h.hi
  have hin : ((bud c m : Nat) : Int) ∈ Cof.get gs (m : Int) := (h.mem hm hl).2 hb
  have hrk := (rk_mem (h.pl.srt m (by omega))).2 hin
  have hS : Mx op (bud c m) m ∧ ¬ (c ≤ bud c m ∧ bud c m + 2 ^ m ≤ c + 2 ^ m) := ⟨hb, fun hh => by omega⟩
  refine ⟨by have := h.om; omega, by omega, by omega, by omega, ⟨par_dvd c m, fun i h1 h2 => ?_⟩, (h.pl.del (by omega) hS).iff fun b j hj => ?_, ?_⟩
  · by_cases hi : c ≤ i ∧ i < c + 2 ^ m
    · exact h.fb.2 i hi.1 hi.2
    · exact (open_at hl).2 (.inl (hb.1.2 i (by omega) (by omega)))
  · have hpj := two_pos j
    constructor
    · rintro ⟨⟨h1, h2⟩, h3⟩
      refine ⟨h1, fun hh => ?_⟩
      by_cases hjm : j ≤ m
      · by_cases hi : c ≤ b ∧ b < c + 2 ^ m
        · exact h2 (nest hjm h1.1.1 h.fb.1 (i := b) (Nat.le_refl _) (by omega) hi.1 hi.2)
        · exact h3 (hb.same h1 hj (by omega) (i := b) (Nat.le_refl _) (by omega) (by omega) (by omega))
      · have hle : 2 ^ (m + 1) ≤ 2 ^ j := Nat.pow_le_pow_right (by decide) (by omega)
        exact hc a (Nat.le_refl _) (by omega) (h1.1.2 a (by omega) (by omega))
    · rintro ⟨h1, h2⟩
      refine ⟨⟨h1, fun hh => h2 (by omega)⟩, fun hh => ?_⟩
      obtain ⟨rfl, rfl⟩ := hh
      exact h2 (by omega)
  · have := sum_del h.pl.len (k := m) (by omega) hrk.1
    have h4 := h.sum
    omega
theorem Mg.done (hfs : BOk op fs) (h : Mg op a o c m fs gs) (hl : a + 2 ^ o ≤ op.length) (hc : ∀ i, a ≤ i → i < a + 2 ^ o → ¬ O op i) (he : m = 6 ∨ ¬ Mx op (bud c m) m) :
    BOk (setN op a (2 ^ o) true) (gs.set m (insS (c : Int) (Cof.get gs (m : Int)))) := by
  have hpo := two_pos o
  have hlo := h.lo
  have hhi := h.hi
  have hm6 := h.m6
  refine ⟨(h.pl.ins (a := c) (k := m) (by omega) fun hh => hh.2 ⟨Nat.le_refl _, Nat.le_refl _⟩).iff fun b j hj => ?_, ?_⟩
  · have hend : m = 6 ∨ ¬ ∃ b, Mx op b m ∧ par b m = par c m := by
      rcases he with h6 | h6
      · exact .inl h6
      · refine .inr fun ⟨b, h1, h2⟩ => ?_
        rcases bud_uniq h.fb.1 h1.1.1 h2 with rfl | rfl
        · exact hc a (Nat.le_refl _) (by omega) (h1.1.2 a hlo (by omega))
        · exact h6 h1
    have hfb := h.fb
    rw [← setR_add] at hfb ⊢
    have := give_mx hl hc hm6 ⟨hlo, hhi⟩ hfb hend b j hj
    rw [this]
    exact ⟨fun hh => hh.elim .inr .inl, fun hh => hh.elim .inr .inl⟩
  · rw [sum_ins h.pl.len (by omega), cnt_open hl hc]
    have h1 := h.sum
    have h2 := hfs.sum
    omega
end
end Go.Proofs.Ytkcpjgdmfjhlkaa
