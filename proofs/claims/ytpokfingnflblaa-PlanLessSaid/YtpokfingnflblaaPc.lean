/- Less may be, too: the plain part. -/
import Derived.Test.YtpokfingnflblaaPb
set_option linter.unusedVariables false
namespace Go.Proofs.Ytpokfingnflblaa
open Go.RowKit Go.Cof

structure Less (x z : Pd) : Prop where
  o : z.o = x.o
  xs : z.xs = x.xs
  u : 2 ≤ z.u ∧ z.u ≤ x.u
  t : 4 ≤ z.t ∧ z.t ≤ x.t
  s : 1 ≤ z.s ∧ z.s ≤ x.s
  r : 1 ≤ z.r ∧ z.r ≤ x.r
  d : 1 ≤ z.d ∧ z.d ≤ x.d
  k : 1 ≤ z.k ∧ z.k ≤ x.k
theorem Less.rfl' {x : Pd} (h : Nine x) : Less x x := ⟨rfl, rfl, ⟨h.u.1, Int.le_refl _⟩, ⟨h.t.1, Int.le_refl _⟩, ⟨h.s.1, Int.le_refl _⟩, ⟨h.r.1, Int.le_refl _⟩, ⟨h.d.1, Int.le_refl _⟩, ⟨h.k.1, Int.le_refl _⟩⟩
theorem Less.to_u {x z : Pd} (h : Less x z) {n : Int} (hn : 0 ≤ n) : Less x { z with u := mx (z.u - n) 2 } := by
  have a := h.u
  have b : 2 ≤ mx (z.u - n) 2 ∧ mx (z.u - n) 2 ≤ x.u := by unfold mx; split <;> omega
  exact ⟨h.o, h.xs, b, h.t, h.s, h.r, h.d, h.k⟩
theorem Less.to_t {x z : Pd} (h : Less x z) {n : Int} (hn : 0 ≤ n) : Less x { z with t := mx (z.t - n) 4 } := by
  have a := h.t
  have b : 4 ≤ mx (z.t - n) 4 ∧ mx (z.t - n) 4 ≤ x.t := by unfold mx; split <;> omega
  exact ⟨h.o, h.xs, h.u, b, h.s, h.r, h.d, h.k⟩
theorem Less.to_s {x z : Pd} (h : Less x z) {n : Int} (hn : 0 ≤ n) : Less x { z with s := mx (z.s - n) 1 } := by
  have a := h.s
  have b : 1 ≤ mx (z.s - n) 1 ∧ mx (z.s - n) 1 ≤ x.s := by unfold mx; split <;> omega
  exact ⟨h.o, h.xs, h.u, h.t, b, h.r, h.d, h.k⟩
theorem Less.to_r {x z : Pd} (h : Less x z) {n : Int} (hn : 0 ≤ n) : Less x { z with r := mx (z.r - n) 1 } := by
  have a := h.r
  have b : 1 ≤ mx (z.r - n) 1 ∧ mx (z.r - n) 1 ≤ x.r := by unfold mx; split <;> omega
  exact ⟨h.o, h.xs, h.u, h.t, h.s, b, h.d, h.k⟩
theorem Less.to_d {x z : Pd} (h : Less x z) {n : Int} (hn : 0 ≤ n) : Less x { z with d := mx (z.d - n) 1 } := by
  have a := h.d
  have b : 1 ≤ mx (z.d - n) 1 ∧ mx (z.d - n) 1 ≤ x.d := by unfold mx; split <;> omega
  exact ⟨h.o, h.xs, h.u, h.t, h.s, h.r, b, h.k⟩
theorem Less.to_k {x z : Pd} (h : Less x z) {n : Int} (hn : 0 ≤ n) : Less x { z with k := mx (z.k - n) 1 } := by
  have a := h.k
  have b : 1 ≤ mx (z.k - n) 1 ∧ mx (z.k - n) 1 ≤ x.k := by unfold mx; split <;> omega
  exact ⟨h.o, h.xs, h.u, h.t, h.s, h.r, h.d, b⟩
theorem Less.nine {x z : Pd} (h : Less x z) (hx : Nine x) : Nine z := by
  have h1 := h.o; have h2 := h.u; have h3 := h.t; have h4 := h.s; have h5 := h.r; have h6 := h.d; have h7 := h.k
  have a := (Nine.iff _).1 hx
  exact (Nine.iff _).2 (by omega)
theorem Less.li {x z : Pd} (h : Less x z) : liF z ≤ liF x := by
  have h2 := h.u; have h6 := h.d; have h7 := h.k
  unfold liF
  split <;> split <;> omega
theorem Less.ne {x z : Pd} (h : Less x z) : neF z ≤ neF x := by
  have h1 := h.o; have h2 := h.u; have h3 := h.t; have h4 := h.s; have h5 := h.r; have h6 := h.d; have h7 := h.k
  unfold neF
  rw [h1]
  omega
def lessD (d : Cd) (p : Nat) (z : Pd) : Cd := { d with ps := d.ps.set p z }
theorem less_len {d : Cd} {p : Nat} {z : Pd} : (lessD d p z).ps.length = d.ps.length := List.length_set
theorem less_get {d : Cd} {p : Nat} {z : Pd} (hp : p < d.ps.length) (k : Nat) : Cof.get (lessD d p z).ps (k : Int) = if p = k then z else Cof.get d.ps (k : Int) := get_set hp
theorem less_at {d : Cd} {p : Nat} {z : Pd} (hp : p < d.ps.length) (hz : Less (Cof.get d.ps (p : Int)) z) (hn : ∀ k, k < d.ps.length → Nine (Cof.get d.ps (k : Int))) (k : Nat) (hk : k < d.ps.length) : Less (Cof.get d.ps (k : Int)) (Cof.get (lessD d p z).ps (k : Int)) := by
  rw [less_get hp]
  by_cases e : p = k
  · subst e; rw [if_pos rfl]; exact hz
  · rw [if_neg e]; exact Less.rfl' (hn k hk)
theorem less_xs {d : Cd} {p : Nat} {z : Pd} (hp : p < d.ps.length) (hz : Less (Cof.get d.ps (p : Int)) z) (k : Nat) : (Cof.get (lessD d p z).ps (k : Int)).xs = (Cof.get d.ps (k : Int)).xs := by
  rw [less_get hp]
  by_cases e : p = k
  · subst e; rw [if_pos rfl]; exact hz.xs
  · rw [if_neg e]
theorem mx_mono {a b x y : Int} (h1 : a ≤ b) (h2 : x ≤ y) : mx a x ≤ mx b y := by unfold mx; split <;> split <;> omega
theorem mxL_mono {m st fa di no no' pg al al' fr fr' : Int} (h1 : al ≤ al') (h2 : fr ≤ fr') (h3 : 16 * no * m ≤ 16 * no' * m) : mxL (bhL m st fa di no pg al fr) ≤ mxL (bhL m st fa di no' pg al' fr') := by
  unfold mxL bhL
  show mx (mx (mx (mx (mx (mx (mx (mx (mx (mx 0 _) _) _) _) _) _) _) _) _) _ ≤ mx (mx (mx (mx (mx (mx (mx (mx (mx (mx 0 _) _) _) _) _) _) _) _) _) _
  exact mx_mono (mx_mono (mx_mono (mx_mono (mx_mono (mx_mono (mx_mono (mx_mono (mx_mono (mx_mono (Int.le_refl _) (Int.le_refl _)) (Int.le_refl _)) (by omega)) (by omega)) (Int.le_refl _)) (Int.le_refl _)) (Int.le_refl _)) (Int.le_refl _)) (by omega)) (by omega)
theorem most_mono {x : Cs} {s s' : Sh} (hc : CostP x) (h0 : s.im = s'.im) (h1 : s.us ≤ s'.us) (h2 : s.li ≤ s'.li) (h3 : s.no ≤ s'.no) : mostF x s ≤ mostF x s' := by
  have a1 := hc.l1; have a2 := hc.ll; have a3 := hc.ms; have b := hc.st
  unfold mostF
  rw [h0]
  refine Int.add_le_add_left (mxL_mono ?_ ?_ ?_) _
  · exact Int.mul_le_mul_of_nonneg_right h2 (by show 0 ≤ x.st + 2 * x.ms; omega)
  · have := Int.mul_le_mul_of_nonneg_right (c := x.st) (show 2 * s.us + 1 ≤ 2 * s'.us + 1 by omega) (by omega)
    show (2 * s.us + 1) * x.st + x.di ≤ (2 * s'.us + 1) * x.st + x.di
    omega
  · exact Int.mul_le_mul_of_nonneg_right (by omega) (by omega)
theorem nt_true {b : Bool} {e a : Int} {l : List Fl} (h : b = true) : nt b e a l = l := by unfold nt; rw [if_pos h]
theorem partE_ok {d : Cd} {p : Nat} (h : ColP d p ∧ QuoP d p) : partE d p = 0 := by unfold partE; rw [if_pos h.1, if_pos h.2]
theorem MayF.may {d : Cd} (h : MayF d) : MayP d := by
  have h0 : partsF d 0 = [] := by
    unfold partsF
    rw [nt_true (decide_eq_true h.tur), nt_true (decide_eq_true h.sli), nt_true (decide_eq_true h.cost), nt_true (decide_eq_true h.mach)]
  have hn : ∀ n, n ≤ d.ps.length → partsF d n = [] := by
    intro n
    induction n with
    | zero => exact fun _ => h0
    | succ n ih =>
      intro hn
      unfold partsF
      rw [nt_true (decide_eq_true (partE_ok (h.part n (by omega)))), ih (by omega)]
  exact hn _ (Nat.min_le_left _ _)
theorem less_sl {d : Cd} {p : Nat} {z : Pd} (h : MayF d) (hp : p < d.ps.length) (hz : Less (Cof.get d.ps (p : Int)) z) : ∀ n, n ≤ d.ps.length → slF (lessD d p z) n ≤ slF d n
  | 0, _ => Int.le_refl _
  | n + 1, hn => by
    have ih := less_sl h hp hz n (by omega)
    have hk := (less_at hp hz (fun k hk => (h.part k hk).2.1) n (by omega)).k
    have hkk := h.k n (by omega)
    unfold slF
    rw [if_pos (by omega), if_pos (by omega)]
    omega
theorem less_mayF {d : Cd} {p : Nat} {z : Pd} (h : MayF d) (hp : p < d.ps.length) (hz : Less (Cof.get d.ps (p : Int)) z) : MayF (lessD d p z) := by
  have hall := less_at hp hz (fun k hk => (h.part k hk).2.1)
  have hm : MachP (lessD d p z) := ⟨h.mach.co, h.mach.cop, h.mach.fr, h.mach.div, h.mach.ls, h.mach.lsp, h.mach.wa, h.mach.lw, h.mach.tl, by rw [less_len]; exact h.mach.ps⟩
  have hxs := less_xs hp hz
  have hcol : ∀ k, k < d.ps.length → ColP (lessD d p z) k := fun k hk => by
    have hc := (h.part k hk).1
    unfold ColP Good at hc ⊢
    simp only [hxs]
    exact hc
  have hpart : ∀ k, k < d.ps.length → ColP (lessD d p z) k ∧ QuoP (lessD d p z) k := fun k hk => by
    have hq := (h.part k hk).2
    have hl := hall k hk
    refine ⟨hcol k hk, hl.nine hq.1, Int.le_trans (less_sl h hp hz (k + 1) (by omega)) hq.2.1, fun _ => ?_⟩
    obtain ⟨a, b⟩ := hq.2.2 h.mach
    refine ⟨by rw [hl.o]; exact a, Int.le_trans hl.ne ?_⟩
    show _ ≤ ((Cof.get (lessD d p z).ps (k : Int)).xs.length : Int) * eaF d
    rw [hxs]
    exact b
  refine ⟨hm, h.cost, ⟨h.sli.1, h.sli.2.1, h.sli.2.2.1, fun _ _ => ⟨(h.sli.2.2.2 h.mach h.cost).1, fun k hk hz2 => ?_⟩⟩, ⟨h.tur.1, fun v hv => by rw [less_len]; exact h.tur.2 v hv⟩, fun k hk => hpart k (by rw [less_len] at hk; exact hk)⟩
  rw [less_len] at hk
  have hl := hall k hk
  refine Int.le_trans (most_mono h.cost ?_ ?_ ?_ ?_) ((h.sli.2.2.2 h.mach h.cost).2 k hk (partE_ok (h.part k hk)))
  · show imF _ = imF _
    rw [hl.o]
  · exact hl.u.2
  · exact hl.li
  · exact hl.t.2
theorem less_in {d : Cd} {p : Nat} {z : Pd} (hd : d.In) (hp : p < d.ps.length) (hz : Less (Cof.get d.ps (p : Int)) z) : (lessD d p z).In := by
  refine ⟨hd.fr, hd.co, hd.wa, hd.ls, hd.lw, hd.tl, hd.cs, hd.sl, hd.pd, hd.fi, hd.tn, fun q hq => ?_⟩
  rcases List.mem_or_eq_of_mem_set hq with hq | rfl
  · exact hd.ps q hq
  · have hx := hd.ps _ (get_mem' (l := d.ps) (i := (p : Int)) (by omega) (by omega))
    have a1 := hx.u; have a2 := hx.t; have a3 := hx.s; have a4 := hx.r; have a5 := hx.d; have a6 := hx.k
    have b1 := hz.u; have b2 := hz.t; have b3 := hz.s; have b4 := hz.r; have b5 := hz.d; have b6 := hz.k
    exact ⟨by rw [hz.o]; exact hx.o, by omega, by omega, by omega, by omega, by omega, by omega, by rw [hz.xs]; exact hx.xs⟩
end Go.Proofs.Ytpokfingnflblaa
