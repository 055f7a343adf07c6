/- Next with bits that are cleared when they are asked, in plain lists. -/
import Derived.Test.YtgbcagcaaegciaaPb
set_option linter.unusedVariables false
namespace Go.Proofs.Ytgbcagcaaegciaa
open Go.RowKit Go.Cof

def ansB (s : List Bool) (y : Int) : Bool := Cof.get s (y % 64)
def nxB (s : List Bool) (y : Int) : List Bool := s.set (y % 64).toNat false
theorem m64 {j : Nat} (h : j < 64) : ((j : Int) % 64) = j ∧ ((j : Int) % 64).toNat = j := by omega
structure Clr (pin : Int) (a b : Nat) (s s' : List Bool) : Prop where
  len : s'.length = 64
  bit : ∀ j : Nat, j < 64 → Cof.get s' j = if a ≤ j ∧ j < b ∧ ¬ (j : Int) = pin then false else Cof.get s j
theorem Clr.refl {pin : Int} {a : Nat} {s : List Bool} (h : s.length = 64) : Clr pin a a s s := ⟨h, fun j hj => by rw [if_neg (by omega)]⟩
theorem Clr.pin {pin : Int} {a b : Nat} {s s' : List Bool} (hp : (a : Int) = pin) (h : Clr pin (a + 1) b s s') : Clr pin a b s s' := ⟨h.len, fun j hj => by
  rw [h.bit j hj]
  by_cases hc : a + 1 ≤ j ∧ j < b ∧ ¬ (j : Int) = pin
  · rw [if_pos hc, if_pos (by omega)]
  · rw [if_neg hc, if_neg (by omega)]⟩
theorem Clr.used {pin : Int} {a b : Nat} {s s' : List Bool} (ha : a < 64) (hab : a < b) (hl : s.length = 64) (hp : ¬ (a : Int) = pin) (h : Clr pin (a + 1) b (nxB s a) s') : Clr pin a b s s' := ⟨h.len, fun j hj => by
  rw [h.bit j hj]
  unfold nxB
  rw [(m64 ha).2, get_set (by omega)]
  by_cases hc : a + 1 ≤ j ∧ j < b ∧ ¬ (j : Int) = pin
  · rw [if_pos hc, if_pos (by omega)]
  · rw [if_neg hc]
    by_cases he : a = j
    · subst he
      rw [if_pos rfl, if_pos (by omega)]
    · rw [if_neg he, if_neg (by omega)]⟩
theorem row_step {n a : Nat} (h : a < n) : ∃ t, rotL (seqI n) (a % n) = (a : Int) :: t ∧ rotL (seqI n) ((a + 1) % n) = t ++ [(a : Int)] := by
  obtain ⟨t, h1, h2⟩ := rotL_step (xs := seqI n) (h := a) (by rw [seqI_len]; exact h)
  rw [seqI_len] at h2
  rw [seqI_get h] at h1 h2
  exact ⟨t, by rw [Nat.mod_eq_of_lt h]; exact h1, h2⟩
theorem pass {n : Nat} {pin : Int} (hn : n ≤ 64) : ∀ (d a m k : Nat) (s : List Bool), s.length = 64 → a + d ≤ n → (∀ j : Nat, a ≤ j → j < a + d → (j : Int) = pin ∨ Cof.get s j = true) →
    ∃ s', Clr pin a (a + d) s s' ∧ nextGo ansB nxB pin (d + m) k (rotL (seqI n) (a % n)) s = nextGo ansB nxB pin m (k + d) (rotL (seqI n) ((a + d) % n)) s'
  | 0, a, m, k, s, hl, _, _ => ⟨s, Clr.refl hl, by rw [Nat.zero_add]; rfl⟩
  | d + 1, a, m, k, s, hl, had, hj => by
    obtain ⟨t, h1, h2⟩ := row_step (n := n) (a := a) (by omega)
    have e1 : d + 1 + m = (d + m) + 1 := by omega
    have e2 : a + (d + 1) = a + 1 + d := by omega
    have e3 : k + (d + 1) = k + 1 + d := by omega
    rw [h1, e1, e2, e3]
    by_cases hp : (a : Int) = pin
    · obtain ⟨s', g1, g2⟩ := pass hn d (a + 1) m (k + 1) s hl (by omega) (fun j h3 h4 => hj j (by omega) (by omega))
      refine ⟨s', g1.pin hp, ?_⟩
      subst hp
      rw [nextGo_pin, ← h2, g2]
    · have ha : Cof.get s a = true := (hj a (Nat.le_refl _) (by omega)).resolve_left hp
      have hl2 : (nxB s a).length = 64 := by unfold nxB; rw [List.length_set]; exact hl
      obtain ⟨s', g1, g2⟩ := pass hn d (a + 1) m (k + 1) (nxB s a) hl2 (by omega) (fun j h3 h4 => by
        unfold nxB
        rw [(m64 (by omega)).2, get_set (by omega), if_neg (by omega)]
        exact hj j (by omega) (by omega))
      refine ⟨s', g1.used (by omega) (by omega) hl hp, ?_⟩
      rw [nextGo_used _ _ _ hp (show ansB s a = true by unfold ansB; rw [(m64 (by omega)).1]; exact ha), ← h2, g2]
theorem found {n : Nat} {pin : Int} (hn : n ≤ 64) {w m k : Nat} {s : List Bool} (hw : w < n) (hp : ¬ (w : Int) = pin) (hb : Cof.get s w = false) :
    nextGo ansB nxB pin (m + 1) k (rotL (seqI n) (w % n)) s = (((w : Int), k + 1, 0), rotL (seqI n) ((w + 1) % n), nxB s w) := by
  obtain ⟨t, h1, h2⟩ := row_step (n := n) (a := w) hw
  rw [h1, nextGo_found _ _ _ hp (show ansB s w = false by unfold ansB; rw [(m64 (by omega)).1]; exact hb), h2]
theorem seq_ne {n : Nat} (h : 0 < n) : seqI n ≠ [] := fun e => by
  have := seqI_len n
  rw [e] at this
  simp at this
  omega
theorem rot00 (n : Nat) : rotL (seqI n) (0 % n) = seqI n := by rw [Nat.zero_mod, rotL_zero]
/-- There is one that is neither pinned nor set. -/
theorem second_w {n : Nat} {pin : Int} (hn : n ≤ 64) {w : Nat} {s : List Bool} (hl : s.length = 64) (hw : w < n) (hp : ¬ (w : Int) = pin) (hb : Cof.get s w = false) (hj : ∀ j : Nat, j < w → (j : Int) = pin ∨ Cof.get s j = true) :
    ∃ s', nextF ansB nxB pin (seqI n) s = (((w : Int), w + 1, 0), rotL (seqI n) ((w + 1) % n), s') ∧ s'.length = 64 ∧ ∀ j : Nat, j < w → ¬ (j : Int) = pin → Cof.get s' j = false := by
  rw [nextF_some _ _ _ (seq_ne (by omega)), seqI_len]
  obtain ⟨s', g1, g2⟩ := pass hn w 0 (2 * n - w + 1) 0 s hl (by omega) (fun j h1 h2 => hj j (by omega))
  simp only [rot00, Nat.zero_add] at g2 g1
  have hb2 : Cof.get s' w = false := by rw [g1.bit w (by omega), if_neg (by omega)]; exact hb
  rw [show 2 * n + 1 = w + (2 * n - w + 1) from by omega, g2, found hn hw hp hb2]
  refine ⟨_, rfl, by unfold nxB; rw [List.length_set]; exact g1.len, fun j h1 h2 => ?_⟩
  unfold nxB
  rw [(m64 (by omega)).2, get_set (by rw [g1.len]; omega), if_neg (by omega), g1.bit j (by omega), if_pos (by omega)]
/-- All but the pinned one are set. -/
theorem second_f {n : Nat} {pin : Int} (hn : n ≤ 64) {f : Nat} {s : List Bool} (hl : s.length = 64) (hf : f < n) (hp : ¬ (f : Int) = pin) (hfj : ∀ j : Nat, j < f → (j : Int) = pin) (hj : ∀ j : Nat, j < n → (j : Int) = pin ∨ Cof.get s j = true) :
    ∃ s', nextF ansB nxB pin (seqI n) s = (((f : Int), n + f + 1, 0), rotL (seqI n) ((f + 1) % n), s') ∧ s'.length = 64 := by
  rw [nextF_some _ _ _ (seq_ne (by omega)), seqI_len]
  obtain ⟨s1, g1, g2⟩ := pass hn n 0 (n + 1) 0 s hl (by omega) (fun j h1 h2 => hj j (by omega))
  simp only [rot00, Nat.zero_add, Nat.mod_self, rotL_zero] at g1 g2
  obtain ⟨s2, k1, k2⟩ := pass hn f 0 (n - f + 1) n s1 g1.len (by omega) (fun j h1 h2 => .inl (hfj j (by omega)))
  simp only [rot00, Nat.zero_add] at k1 k2
  have hb2 : Cof.get s2 f = false := by rw [k1.bit f (by omega), if_neg (by omega), g1.bit f (by omega), if_pos (by omega)]
  rw [show 2 * n + 1 = n + (n + 1) from by omega, g2, show n + 1 = f + (n - f + 1) from by omega, k2, found hn hf hp hb2]
  exact ⟨_, rfl, by unfold nxB; rw [List.length_set]; exact k1.len⟩
theorem second_n (s : List Bool) : nextF ansB nxB 0 (seqI 1) s = ((0, 3, 190), seqI 1, s) := by
  rw [nextF_some _ _ _ (seq_ne (by omega))]
  show nextGo ansB nxB 0 3 0 [0] s = _
  rw [nextGo_pin]
  show nextGo ansB nxB 0 2 1 [0] s = _
  rw [nextGo_pin]
  show nextGo ansB nxB 0 1 2 [0] s = _
  rw [nextGo_pin]
  rfl
/-! what the law notes -/
def FirstOk (pin : Int) (i : Nat) (f : Int) : Prop := (f = -1 ∧ ∀ j : Nat, j < i → (j : Int) = pin) ∨ ∃ a : Nat, f = a ∧ a < i ∧ ¬ (a : Int) = pin ∧ ∀ j : Nat, j < a → (j : Int) = pin
def WantOk (is : Nat → Bool) (pin : Int) (i : Nat) (w : Int) : Prop := (w = -1 ∧ ∀ j : Nat, j < i → (j : Int) = pin ∨ is j = true) ∨ ∃ a : Nat, w = a ∧ a < i ∧ ¬ (a : Int) = pin ∧ is a = false ∧ ∀ j : Nat, j < a → (j : Int) = pin ∨ is j = true
theorem FirstOk.new {pin : Int} {i : Nat} {f : Int} (h : FirstOk pin i f) (hp : ¬ (i : Int) = pin) (hf : f < 0) : FirstOk pin (i + 1) i := by
  rcases h with ⟨_, h⟩ | ⟨a, h, _⟩
  · exact .inr ⟨i, rfl, by omega, hp, h⟩
  · omega
theorem FirstOk.keep {pin : Int} {i : Nat} {f : Int} (h : FirstOk pin i f) (hc : (i : Int) = pin ∨ 0 ≤ f) : FirstOk pin (i + 1) f := by
  rcases h with ⟨h1, h⟩ | ⟨a, h1, h2, h3, h4⟩
  · refine .inl ⟨h1, fun j hj => ?_⟩
    by_cases e : j = i
    · rw [e]; omega
    · exact h j (by omega)
  · exact .inr ⟨a, h1, by omega, h3, h4⟩
theorem WantOk.new {is : Nat → Bool} {pin : Int} {i : Nat} {w : Int} (h : WantOk is pin i w) (hp : ¬ (i : Int) = pin) (hi : is i = false) (hf : w < 0) : WantOk is pin (i + 1) i := by
  rcases h with ⟨_, h⟩ | ⟨a, h, _⟩
  · exact .inr ⟨i, rfl, by omega, hp, hi, h⟩
  · omega
theorem WantOk.keep {is : Nat → Bool} {pin : Int} {i : Nat} {w : Int} (h : WantOk is pin i w) (hc : ((i : Int) = pin ∨ 0 ≤ w) ∨ is i = true) : WantOk is pin (i + 1) w := by
  rcases h with ⟨h1, h⟩ | ⟨a, h1, h2, h3, h4⟩
  · refine .inl ⟨h1, fun j hj => ?_⟩
    by_cases e : j = i
    · rw [e]
      rcases hc with hc | hc
      · exact .inl (by omega)
      · exact .inr hc
    · exact h j (by omega)
  · exact .inr ⟨a, h1, by omega, h3, h4⟩
theorem FirstOk.start (pin : Int) : FirstOk pin 0 (-1) := .inl ⟨rfl, fun j hj => by omega⟩
theorem WantOk.start (is : Nat → Bool) (pin : Int) : WantOk is pin 0 (-1) := .inl ⟨rfl, fun j hj => by omega⟩
/-- The row behind it: its first and its last number. -/
theorem row_ends {n w : Nat} (h : w < n) : (rotL (seqI n) ((w + 1) % n)).length = n ∧ Cof.get (rotL (seqI n) ((w + 1) % n)) ((n : Int) - 1) = w ∧ Cof.get (rotL (seqI n) ((w + 1) % n)) 0 = (((w + 1) % n : Nat) : Int) := by
  have hl : (rotL (seqI n) ((w + 1) % n)).length = n := by rw [rotL_len, seqI_len]
  refine ⟨hl, ?_, ?_⟩
  · obtain ⟨t, h1, h2⟩ := row_step h
    rw [h2] at hl ⊢
    rw [List.length_append, List.length_singleton] at hl
    rw [show (n : Int) - 1 = ((n - 1 : Nat) : Int) from by omega, get_app, if_neg (by omega), show n - 1 - t.length = 0 from by omega]
    rfl
  · have h3 : (w + 1) % n < n := Nat.mod_lt _ (by omega)
    obtain ⟨t, h1, h2⟩ := row_step h3
    rw [Nat.mod_eq_of_lt h3] at h1
    rw [h1]
    rfl
end Go.Proofs.Ytgbcagcaaegciaa
