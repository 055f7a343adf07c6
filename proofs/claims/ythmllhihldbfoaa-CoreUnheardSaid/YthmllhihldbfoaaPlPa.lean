/- Plain: colours and quotas of a part. -/
import Derived.Test.YthmllhihldbfoaaPlDefs
set_option linter.unusedVariables false
namespace Go.Proofs.Ythmllhihldbfoaa.Pl
open Go.RowKit Go.Cof

/-- The i-th colour of part p is well. -/
def Good (d : Cd) (p i : Nat) : Prop := 0 ≤ Cof.get (Cof.get d.ps p).xs i ∧ Cof.get (Cof.get d.ps p).xs i < d.co ∧ (0 < i → Cof.get (Cof.get d.ps p).xs ((i - 1 : Nat) : Int) < Cof.get (Cof.get d.ps p).xs i) ∧ ∀ k, k < p → Cof.get (Cof.get d.ps p).xs i ∉ (Cof.get d.ps k).xs
instance (d : Cd) (p i : Nat) : Decidable (Good d p i) := inferInstanceAs (Decidable (_ ∧ _ ∧ _ ∧ ∀ k, k < p → _))
def ColP (d : Cd) (p : Nat) : Prop := 0 < (Cof.get d.ps p).xs.length ∧ ∀ i, i < (Cof.get d.ps p).xs.length → Good d p i
instance (d : Cd) (p : Nat) : Decidable (ColP d p) := inferInstanceAs (Decidable (_ ∧ ∀ i, i < _ → _))
theorem ColP.ge {d : Cd} {p : Nat} (h : ColP d p) : ∀ i, i < (Cof.get d.ps p).xs.length → (i : Int) ≤ Cof.get (Cof.get d.ps p).xs i
  | 0, hi => (h.2 0 hi).1
  | i + 1, hi => by
    have h1 := ColP.ge h i (by omega)
    have h2 := (h.2 (i + 1) hi).2.2.1 (by omega)
    rw [show i + 1 - 1 = i from rfl] at h2
    omega
theorem ColP.len {d : Cd} {p : Nat} (h : ColP d p) : ((Cof.get d.ps p).xs.length : Int) ≤ d.co := by
  have h0 := h.1
  have h1 := h.ge ((Cof.get d.ps p).xs.length - 1) (by omega)
  have h2 := (h.2 ((Cof.get d.ps p).xs.length - 1) (by omega)).2.1
  omega
/-- Slots of the parts below n that may count. -/
def slF (d : Cd) : Nat → Int
  | 0 => 0
  | n + 1 => slF d n + if 1 ≤ (Cof.get d.ps n).k ∧ (Cof.get d.ps n).k ≤ 1024 then (Cof.get d.ps n).k else 0
theorem slF_rng (d : Cd) : ∀ n : Nat, 0 ≤ slF d n ∧ slF d n ≤ 1024 * n
  | 0 => ⟨Int.le_refl _, Int.le_refl _⟩
  | n + 1 => by
    have := slF_rng d n
    unfold slF
    split <;> omega
def imF (o : Int) : Int := if o = 0 then 1 else if o = 1 then 2 else if o = 2 then 4 else 8
theorem imF_rng (o : Int) : imF o = 1 ∨ imF o = 2 ∨ imF o = 4 ∨ imF o = 8 := by unfold imF; split; simp; split; simp; split <;> simp
theorem shl_im {o : Int} (h : 0 ≤ o ∧ o ≤ 3) : IntKind.i64.wrap (1 * 2 ^ min o.toNat IntKind.i64.bits) = imF o := by
  rcases (by omega : o = 0 ∨ o = 1 ∨ o = 2 ∨ o = 3) with rfl | rfl | rfl | rfl <;> decide
abbrev eaF (d : Cd) : Int := d.fr.tdiv d.co
theorem eaF_rng {d : Cd} (h : MachP d) : 0 ≤ eaF d ∧ eaF d ≤ 4096 := by
  have h1 := h.co
  have h2 := h.fr
  refine ⟨Int.tdiv_nonneg (by omega) (by omega), ?_⟩
  have h3 : eaF d * d.co ≤ d.fr := by
    have := Int.mul_tdiv_add_tmod d.fr d.co
    rw [h.div, Int.add_zero, Int.mul_comm] at this
    exact Int.le_of_eq this
  have h4 : 0 ≤ eaF d := Int.tdiv_nonneg (by omega) (by omega)
  have h5 : eaF d * 1 ≤ eaF d * d.co := Int.mul_le_mul_of_nonneg_left h1.1 h4
  omega
abbrev toF (d : Cd) (p : Nat) : Int := (Cof.get d.ps p).xs.length * eaF d
theorem toF_rng {d : Cd} {p : Nat} (h : MachP d) (hc : ColP d p) : 0 ≤ toF d p ∧ toF d p ≤ 65536 := by
  have h1 := eaF_rng h
  have h2 := hc.len
  have h3 := h.co
  exact ⟨Int.mul_nonneg (by omega) h1.1, Int.le_trans (Int.mul_le_mul (show ((Cof.get d.ps p).xs.length : Int) ≤ 16 by omega) h1.2 h1.1 (by decide)) (by decide)⟩
structure Nine (x : Pd) : Prop where
  o : 0 ≤ x.o ∧ x.o ≤ 3
  u : 2 ≤ x.u ∧ x.u ≤ 4096
  t : 4 ≤ x.t ∧ x.t ≤ 4096
  s : 1 ≤ x.s ∧ x.s ≤ 4096
  r : 1 ≤ x.r ∧ x.r ≤ 4096
  d : 1 ≤ x.d ∧ x.d ≤ 4096
  k : 1 ≤ x.k ∧ x.k ≤ 1024
theorem Nine.iff (x : Pd) : Nine x ↔ (0 ≤ x.o ∧ x.o ≤ 3) ∧ (2 ≤ x.u ∧ x.u ≤ 4096) ∧ (4 ≤ x.t ∧ x.t ≤ 4096) ∧ (1 ≤ x.s ∧ x.s ≤ 4096) ∧ (1 ≤ x.r ∧ x.r ≤ 4096) ∧ (1 ≤ x.d ∧ x.d ≤ 4096) ∧ (1 ≤ x.k ∧ x.k ≤ 1024) :=
  ⟨fun ⟨a, b, c, e, f, g, h⟩ => ⟨a, b, c, e, f, g, h⟩, fun ⟨a, b, c, e, f, g, h⟩ => ⟨a, b, c, e, f, g, h⟩⟩
instance (x : Pd) : Decidable (Nine x) := decidable_of_iff _ (Nine.iff x).symm
abbrev neF (x : Pd) : Int := imF x.o + x.u + x.t + x.s + x.r + x.d
/-- The quotas of part p are well. -/
def QuoP (d : Cd) (p : Nat) : Prop := Nine (Cof.get d.ps p) ∧ slF d (p + 1) ≤ 1024 ∧ (MachP d → imF (Cof.get d.ps p).o ≤ eaF d ∧ neF (Cof.get d.ps p) ≤ toF d p)
instance (d : Cd) (p : Nat) : Decidable (QuoP d p) := inferInstanceAs (Decidable (_ ∧ _ ∧ (_ → _)))
def partE (d : Cd) (p : Nat) : Int := if ColP d p then if QuoP d p then 0 else 111 else 110
end Go.Proofs.Ythmllhihldbfoaa.Pl
