/- Partitions do not meet: the plain part. -/
import Derived.Test.YtpokfingnflblaaWn
import Derived.Test.YtpokfingnflblaaWg
set_option linter.unusedVariables false
namespace Go.Proofs.Ytpokfingnflblaa
open Go.RowKit Go.Cof

def colsF (d : Cd) : Nat → List Int
  | 0 => []
  | n + 1 => colsF d n ++ (Cof.get d.ps (n : Int)).xs
def ftF (d : Cd) : Nat → Int
  | 0 => 0
  | n + 1 => ftF d n + toF d n
theorem cols_mem {d : Cd} {v : Int} : ∀ {n : Nat}, v ∈ colsF d n ↔ ∃ k, k < n ∧ v ∈ (Cof.get d.ps (k : Int)).xs
  | 0 => ⟨fun h => (by cases h), fun ⟨_, h, _⟩ => (by omega)⟩
  | n + 1 => by
    rw [colsF, List.mem_append, cols_mem]
    constructor
    · rintro (⟨k, h1, h2⟩ | h)
      · exact ⟨k, by omega, h2⟩
      · exact ⟨n, by omega, h⟩
    · rintro ⟨k, h1, h2⟩
      by_cases hk : k < n
      · exact .inl ⟨k, hk, h2⟩
      · obtain rfl : k = n := by omega
        exact .inr h2
theorem ft_eq {d : Cd} : ∀ {n : Nat}, ftF d n = (colsF d n).length * eaF d
  | 0 => by simp [ftF, colsF]
  | n + 1 => by
    rw [ftF, colsF, ft_eq, List.length_append, Int.natCast_add, Int.add_mul]
structure Mk (co : Int) (L zs : List Int) : Prop where
  len : (zs.length : Int) = co
  sum : zs.sum = (L.length : Int)
  here : ∀ v : Nat, (v : Int) < co → Cof.get zs (v : Int) = if (v : Int) ∈ L then 1 else 0
theorem sum_rep : ∀ n : Nat, (List.replicate n (0 : Int)).sum = 0
  | 0 => rfl
  | n + 1 => by rw [List.replicate_succ, List.sum_cons, sum_rep n]; rfl
theorem Mk.nil {co : Int} (h : 0 ≤ co) : Mk co [] (List.replicate co.toNat 0) := by
  refine ⟨by rw [List.length_replicate]; omega, sum_rep _, fun v hv => ?_⟩
  rw [if_neg (by simp), get_getElem (by rw [List.length_replicate]; omega), List.getElem_replicate]
theorem sum_set : ∀ {zs : List Int} {i : Nat} {x : Int}, i < zs.length → (zs.set i x).sum = zs.sum - Cof.get zs (i : Int) + x
  | [], i, x, h => by simp at h
  | a :: zs, 0, x, h => by
    have e : Cof.get (a :: zs) ((0 : Nat) : Int) = a := rfl
    rw [List.set_cons_zero, List.sum_cons, List.sum_cons, e]
    omega
  | a :: zs, i + 1, x, h => by
    have ih := sum_set (zs := zs) (i := i) (x := x) (by simpa using h)
    rw [List.set_cons_succ, List.sum_cons, List.sum_cons, get_cons_succ, ih]
    omega
theorem Mk.step {co : Int} {L zs : List Int} (h : Mk co L zs) {v : Nat} (hv : (v : Int) < co) (hn : (v : Int) ∉ L) : Cof.get zs (v : Int) = 0 ∧ Mk co (L ++ [(v : Int)]) (zs.set v (Cof.get zs (v : Int) + 1)) := by
  have h0 : Cof.get zs (v : Int) = 0 := by rw [h.here v hv, if_neg hn]
  have hlt : v < zs.length := by have := h.len; omega
  refine ⟨h0, by rw [List.length_set]; exact h.len, ?_, fun w hw => ?_⟩
  · rw [sum_set hlt, h.sum, List.length_append]
    simp
    omega
  · rw [get_set hlt]
    by_cases e : v = w
    · subst e
      rw [if_pos rfl, h0, if_pos (by simp)]; rfl
    · rw [if_neg e, h.here w hw]
      have : ((w : Int) ∈ L ++ [(v : Int)]) ↔ (w : Int) ∈ L := by
        rw [List.mem_append, List.mem_singleton]
        constructor
        · rintro (h | h)
          · exact h
          · omega
        · exact .inl
      simp only [this]
theorem Mk.stepI {co : Int} {L zs : List Int} (h : Mk co L zs) {v : Int} (h0 : 0 ≤ v) (hv : v < co) (hn : v ∉ L) : Cof.get zs v = 0 ∧ Mk co (L ++ [v]) (zs.set v.toNat (Cof.get zs v + 1)) := by
  obtain ⟨n, rfl⟩ : ∃ n : Nat, v = n := ⟨v.toNat, by omega⟩
  exact h.step hv hn
theorem sum_le : ∀ {zs : List Int}, (∀ i : Nat, i < zs.length → Cof.get zs (i : Int) ≤ 1) → zs.sum ≤ zs.length
  | [], _ => Int.le_refl _
  | a :: zs, h => by
    have h0 := h 0 (by simp)
    have ih := sum_le (zs := zs) fun i hi => by have := h (i + 1) (by simpa using hi); rwa [get_cons_succ] at this
    have e : Cof.get (a :: zs) ((0 : Nat) : Int) = a := rfl
    rw [e] at h0
    rw [List.sum_cons, List.length_cons]
    omega
theorem Mk.le {co : Int} {L zs : List Int} (h : Mk co L zs) : (L.length : Int) ≤ co := by
  rw [← h.sum, ← h.len]
  refine sum_le fun i hi => ?_
  rw [h.here i (by have := h.len; omega)]
  split <;> decide
theorem ft_le {d : Cd} {n : Nat} (hm : MachP d) (h : ((colsF d n).length : Int) ≤ d.co) : ftF d n ≤ d.fr := by
  rw [ft_eq]
  have h1 := (eaF_rng hm).1
  have hco := hm.co
  have hfr := hm.fr
  have h2 : d.co * eaF d = d.fr := Int.mul_tdiv_cancel' (Int.dvd_of_tmod_eq_zero hm.div)
  rw [← h2]
  exact Int.mul_le_mul_of_nonneg_right h h1
theorem ft_mono {d : Cd} (hm : MachP d) (n : Nat) : 0 ≤ toF d n := Int.mul_nonneg (Int.natCast_nonneg _) (eaF_rng hm).1
theorem slF_sm {d : Cd} (h : MayF d) : ∀ {n : Nat}, n ≤ d.ps.length → slF d n = smF d.ps n
  | 0, _ => rfl
  | n + 1, hn => by
    rw [slF, smF, slF_sm h (by omega), if_pos (h.k n (by omega))]
theorem sm_le {d : Cd} (h : MayF d) {n : Nat} (hn : n ≤ d.ps.length) : smF d.ps n ≤ 1024 := by
  cases n with
  | zero => show (0 : Int) ≤ 1024; decide
  | succ n =>
    rw [← slF_sm h hn]
    exact (h.part n (by omega)).2.2.1
/-- The owner of a colour that stands in a part's list. -/
theorem own_here {d : Cd} (h : MayP d) {p : Nat} (hp : p < d.ps.length) {i : Nat} (hi : i < (Cof.get d.ps (p : Int)).xs.length) : ownE d (Cof.get (Cof.get d.ps (p : Int)).xs (i : Int)) = ((p : Int), true, 0) := by
  have hg := (h.all.part p hp).1.2 i hi
  have hfq : firstQ (qO (Cof.get (Cof.get d.ps (p : Int)).xs (i : Int))) d.ps = p := by
    refine firstQ_eq (by omega) (fun j hj => ?_) (fun _ => ?_)
    · exact decide_eq_false (hg.2.2.2 j hj)
    · exact decide_eq_true (get_mem' (by omega) (by omega))
  unfold ownE
  rw [if_pos h, if_pos ⟨hg.1, hg.2.1⟩, hfq, if_pos hp]
theorem own_all {d : Cd} (h : MayP d) {v : Nat} (hv : (v : Int) < d.co) : ∃ q, ownE d (v : Int) = (q, decide ((v : Int) ∈ colsF d d.ps.length), 0) := by
  unfold ownE
  rw [if_pos h, if_pos ⟨by omega, hv⟩]
  by_cases hq : firstQ (qO (v : Int)) d.ps < d.ps.length
  · rw [if_pos hq]
    refine ⟨(firstQ (qO (v : Int)) d.ps : Int), ?_⟩
    have hqq : qO (v : Int) (Cof.get d.ps (firstQ (qO (v : Int)) d.ps : Int)) = true := firstQ_lt hq
    have hin : (v : Int) ∈ (Cof.get d.ps (firstQ (qO (v : Int)) d.ps : Int)).xs := of_decide_eq_true hqq
    rw [decide_eq_true (cols_mem.2 ⟨_, hq, hin⟩)]
  · rw [if_neg hq]
    refine ⟨0, ?_⟩
    rw [decide_eq_false]
    intro hm
    obtain ⟨k, h1, h2⟩ := cols_mem.1 hm
    have := firstQ_before (q := qO (v : Int)) (l := d.ps) (j := k) (by omega)
    exact of_decide_eq_false this h2
theorem toF_to {d : Cd} (h : MayF d) {p : Nat} (hp : p < d.ps.length) : 0 ≤ toF d p ∧ toF d p ≤ 65536 := toF_rng h.mach (h.part p hp).1
theorem ft_rng {d : Cd} (h : MayF d) : ∀ {n : Nat}, n ≤ d.ps.length → 0 ≤ ftF d n ∧ ftF d n ≤ 65536 * n
  | 0, _ => ⟨Int.le_refl _, Int.le_refl _⟩
  | n + 1, hn => by
    have h1 := ft_rng h (n := n) (by omega)
    have h2 := toF_to h (p := n) (by omega)
    unfold ftF
    omega
theorem sh_li {x : Pd} (h : Nine x) : 1 ≤ liF x ∧ liF x ≤ x.u + x.k - 1 ∧ liF x ≤ 16 * x.d := by
  have h1 := h.u
  have h2 := h.d
  have h3 := h.k
  unfold liF
  split <;> omega
theorem col_new {d : Cd} (h : MayF d) {p : Nat} (hp : p < d.ps.length) {i : Nat} (hi : i < (Cof.get d.ps (p : Int)).xs.length) : Cof.get (Cof.get d.ps (p : Int)).xs (i : Int) ∉ colsF d p ++ (Cof.get d.ps (p : Int)).xs.take i := by
  have hc := (h.part p hp).1
  have hg := hc.2 i hi
  rw [List.mem_append]
  rintro (hm | hm)
  · obtain ⟨k, h1, h2⟩ := cols_mem.1 hm
    exact hg.2.2.2 k h1 h2
  · obtain ⟨j, hj, e⟩ := List.getElem_of_mem hm
    rw [List.length_take] at hj
    have hlt : ∀ m : Nat, j + m + 1 < (Cof.get d.ps (p : Int)).xs.length + 0 → Cof.get (Cof.get d.ps (p : Int)).xs (j : Int) < Cof.get (Cof.get d.ps (p : Int)).xs ((j + m + 1 : Nat) : Int) := by
      intro m
      induction m with
      | zero => intro hm; exact (hc.2 (j + 1) (by omega)).2.2.1 (by omega)
      | succ m ih =>
        intro hm
        have a := ih (by omega)
        have b := (hc.2 (j + m + 1 + 1) (by omega)).2.2.1 (by omega)
        rw [show j + m + 1 + 1 - 1 = j + m + 1 from rfl] at b
        have : j + (m + 1) + 1 = j + m + 1 + 1 := by omega
        rw [this]
        omega
    have a := hlt (i - j - 1) (by omega)
    rw [show j + (i - j - 1) + 1 = i by omega] at a
    rw [List.getElem_take, ← get_getElem (by omega)] at e
    omega
end Go.Proofs.Ytpokfingnflblaa
