/- How many tables spans need: the plain part. -/
import Derived.Test.YtalkcemelegohaaGm
import Derived.Test.YtalkcemelegohaaAdA
set_option linter.unusedVariables false
set_option maxRecDepth 100000
namespace Go.Proofs.Ytalkcemelegohaa.Ad
open Go.RowKit Go.Cof

def Sp.May (s : Sp) : Prop := 0 ≤ s.p ∧ 0 ≤ s.n ∧ s.p ≤ 1048576 ∧ s.n ≤ 1048576 - s.p
instance (s : Sp) : Decidable s.May := inferInstanceAs (Decidable (_ ∧ _))
def lo (D : Nat) (s : Sp) : Nat := (s.p / (D : Int)).toNat
def hi (D : Nat) (s : Sp) : Nat := ((s.p + s.n - 1) / (D : Int)).toNat
def mark (D : Nat) (b : List Bool) (s : Sp) : List Bool := if 0 < s.n then setN b (lo D s) (hi D s + 1 - lo D s) true else b
def marks (D M : Nat) (l : List Sp) : List Bool := l.foldl (mark D) (List.replicate M false)
def Cv (D : Nat) (l : List Sp) (k : Nat) : Prop := ∃ s ∈ l, 0 < s.n ∧ lo D s ≤ k ∧ k ≤ hi D s
theorem mark_len (D : Nat) (b : List Bool) (s : Sp) : (mark D b s).length = b.length := by
  unfold mark; split
  · exact setN_len ..
  · rfl
theorem mark_at {D : Nat} {b : List Bool} {s : Sp} {k : Nat} : O (mark D b s) k ↔ O b k ∨ (k < b.length ∧ 0 < s.n ∧ lo D s ≤ k ∧ k ≤ hi D s) := by
  unfold mark
  by_cases h : 0 < s.n
  · rw [if_pos h, setN_at]
    by_cases h2 : lo D s ≤ k ∧ k < lo D s + (hi D s + 1 - lo D s) ∧ k < b.length
    · rw [if_pos h2]; exact ⟨fun _ => .inr ⟨h2.2.2, h, h2.1, by omega⟩, fun _ => rfl⟩
    · rw [if_neg h2]
      constructor
      · exact .inl
      · rintro (h3 | ⟨h3, _, h4, h5⟩)
        · exact h3
        · exact absurd ⟨h4, by omega, h3⟩ h2
  · rw [if_neg h]
    exact ⟨.inl, fun h2 => h2.elim id fun h3 => absurd h3.2.1 h⟩
theorem fold_len (D : Nat) : ∀ (l : List Sp) (b : List Bool), (l.foldl (mark D) b).length = b.length
  | [], _ => rfl
  | s :: l, b => by rw [List.foldl_cons, fold_len D l, mark_len]
theorem fold_at (D : Nat) {k : Nat} : ∀ (l : List Sp) (b : List Bool), O (l.foldl (mark D) b) k ↔ O b k ∨ (k < b.length ∧ Cv D l k)
  | [], b => ⟨.inl, fun h => h.elim id fun ⟨_, s, hs, _⟩ => by cases hs⟩
  | s :: l, b => by
    rw [List.foldl_cons, fold_at D l, mark_at, mark_len]
    unfold Cv
    constructor
    · rintro ((h | ⟨h, h1⟩) | ⟨h, t, ht, h1⟩)
      · exact .inl h
      · exact .inr ⟨h, s, List.mem_cons_self, h1⟩
      · exact .inr ⟨h, t, List.mem_cons_of_mem _ ht, h1⟩
    · rintro (h | ⟨h, t, ht, h1⟩)
      · exact .inl (.inl h)
      · rcases List.mem_cons.1 ht with rfl | ht
        · exact .inl (.inr ⟨h, h1⟩)
        · exact .inr ⟨h, t, ht, h1⟩
theorem not_O_rep {n k : Nat} : ¬ O (List.replicate n false) k := fun h => by
  have := h.lt
  unfold O at h
  rw [List.getD_eq_getElem?_getD, List.getElem?_eq_getElem this, List.getElem_replicate] at h
  cases h
theorem marks_len (D M : Nat) (l : List Sp) : (marks D M l).length = M := by unfold marks; rw [fold_len, List.length_replicate]
theorem marks_at {D M k : Nat} {l : List Sp} : O (marks D M l) k ↔ k < M ∧ Cv D l k := by
  unfold marks
  rw [fold_at, List.length_replicate]
  exact ⟨fun h => h.elim (fun g => absurd g not_O_rep) id, .inr⟩
theorem marks_ext {D M : Nat} {l m : List Sp} (h : ∀ k, Cv D l k ↔ Cv D m k) : marks D M l = marks D M m :=
  O_ext (by rw [marks_len, marks_len]) fun k => by rw [marks_at, marks_at, h]
theorem marks_snoc {D M : Nat} {l : List Sp} {s : Sp} : marks D M (l ++ [s]) = mark D (marks D M l) s := by
  unfold marks; rw [List.foldl_append]; rfl
def total (l : List Sp) : Nat := 1 + cntB (marks 32 32768 l) + cntB (marks 1024 1024 l) + cntB (marks 32768 32 l)
theorem total_ext {l m : List Sp} (h : ∀ D : Nat, 0 < D → ∀ k, Cv D l k ↔ Cv D m k) : total l = total m := by
  unfold total; rw [marks_ext (h 32 (by decide)), marks_ext (h 1024 (by decide)), marks_ext (h 32768 (by decide))]
theorem Cv.mem {D k : Nat} {l m : List Sp} (h : ∀ s ∈ l, 0 < s.n → s ∈ m) (hc : Cv D l k) : Cv D m k := by
  obtain ⟨s, hs, h1, h2⟩ := hc
  exact ⟨s, h s hs h1, h1, h2⟩
/-- A sweep over spans that ascend: what lies at or behind `next` is not set; what lies ahead of it, of those that follow, is. -/
structure Sw (D : Nat) (b : List Bool) (next : Nat) (rest : List Sp) : Prop where
  no : ∀ k, next ≤ k → ¬ O b k
  yes : ∀ s ∈ rest, ∀ k, lo D s ≤ k → k < next → O b k
theorem Sw.start (D M : Nat) (l : List Sp) : Sw D (marks D M []) 0 l := ⟨fun k _ h => (by obtain ⟨_, s, hs, _⟩ := marks_at.1 h; cases hs), fun s _ k _ h => by omega⟩
theorem lo_mono {D : Nat} (hD : 0 < D) {s t : Sp} (h : s.p ≤ t.p) : lo D s ≤ lo D t := by
  unfold lo
  have := Int.ediv_le_ediv (c := (D : Int)) (by omega) h
  omega
theorem lo_le_hi {D : Nat} (hD : 0 < D) {s : Sp} (hn : 0 < s.n) : lo D s ≤ hi D s := by
  unfold lo hi
  have := Int.ediv_le_ediv (c := (D : Int)) (by omega) (show s.p ≤ s.p + s.n - 1 by omega)
  omega
theorem Sw.go {D : Nat} (hD : 0 < D) {b : List Bool} {next : Nat} {s : Sp} {rest : List Sp} (h : Sw D b next (s :: rest)) (hr : ∀ t ∈ rest, s.p ≤ t.p) (hn : 0 < s.n) (hl : hi D s < b.length) (hle : max (lo D s) next ≤ hi D s) : cntB (mark D b s) = cntB b + (hi D s - max (lo D s) next + 1) ∧ Sw D (mark D b s) (hi D s + 1) rest := by
  have e : mark D b s = setN b (max (lo D s) next) (hi D s + 1 - max (lo D s) next) true := by
    refine O_ext (by rw [mark_len, setN_len]) fun k => ?_
    rw [mark_at, setN_at]
    by_cases h2 : max (lo D s) next ≤ k ∧ k < max (lo D s) next + (hi D s + 1 - max (lo D s) next) ∧ k < b.length
    · rw [if_pos h2]; exact ⟨fun _ => rfl, fun _ => .inr ⟨h2.2.2, hn, by omega, by omega⟩⟩
    · rw [if_neg h2]
      constructor
      · rintro (h3 | ⟨h3, _, h4, h5⟩)
        · exact h3
        · exact h.yes s List.mem_cons_self k h4 (by omega)
      · exact .inl
  refine ⟨?_, fun k hk hO => ?_, fun t ht k h1 h2 => ?_⟩
  · rw [e, cnt_open (by omega) (fun i h1 _ => h.no i (by omega))]; omega
  · rcases mark_at.1 hO with h3 | ⟨_, _, _, h3⟩
    · exact h.no k (by omega) h3
    · omega
  · have := lo_mono hD (hr t ht)
    exact mark_at.2 (.inr ⟨by omega, hn, by omega, by omega⟩)
theorem Sw.stay {D : Nat} {b : List Bool} {next : Nat} {s : Sp} {rest : List Sp} (h : Sw D b next (s :: rest)) (hle : ¬ max (lo D s) next ≤ hi D s) (hD : 0 < D) (hn : 0 < s.n) : mark D b s = b ∧ Sw D b next rest := by
  have hlh := lo_le_hi hD hn
  refine ⟨O_ext (mark_len ..) fun k => ?_, h.no, fun t ht => h.yes t (List.mem_cons_of_mem _ ht)⟩
  rw [mark_at]
  constructor
  · rintro (h3 | ⟨h3, _, h4, h5⟩)
    · exact h3
    · exact h.yes s List.mem_cons_self k h4 (by omega)
  · exact .inl
/-! few -/
theorem total_mono {l m : List Sp} (h : ∀ s ∈ l, s ∈ m) : total l ≤ total m := by
  have key : ∀ D M, cntB (marks D M l) ≤ cntB (marks D M m) := fun D M => cnt_mono (by rw [marks_len, marks_len]) fun i hi => marks_at.2 ⟨(marks_at.1 hi).1, (marks_at.1 hi).2.mem fun s hs _ => h s hs⟩
  have h1 := key 32 32768
  have h2 := key 1024 1024
  have h3 := key 32768 32
  unfold total; omega
theorem total_add {l m q : List Sp} (h : ∀ s ∈ l, s ∈ m ∨ s ∈ q) : total l + 1 ≤ total m + total q := by
  have key : ∀ D M, cntB (marks D M l) ≤ cntB (marks D M m) + cntB (marks D M q) := fun D M => cnt_union (by rw [marks_len, marks_len]) (by rw [marks_len, marks_len]) fun i hi => by
    obtain ⟨h1, s, hs, h2⟩ := marks_at.1 hi
    rcases h s hs with h3 | h3
    · exact .inl (marks_at.2 ⟨h1, s, h3, h2⟩)
    · exact .inr (marks_at.2 ⟨h1, s, h3, h2⟩)
  have h1 := key 32 32768
  have h2 := key 1024 1024
  have h3 := key 32768 32
  unfold total; omega
/-- A cut does not count. -/
theorem Cv.cut {D : Nat} (hD : 0 < D) {s : Sp} {a : Int} (h0 : 0 ≤ s.p) (ha : 0 ≤ a ∧ a ≤ s.n) {k : Nat} : (0 < s.n ∧ lo D s ≤ k ∧ k ≤ hi D s) ↔ ((0 < (Sp.mk (s.p + a) (s.n - a)).n ∧ lo D ⟨s.p + a, s.n - a⟩ ≤ k ∧ k ≤ hi D ⟨s.p + a, s.n - a⟩) ∨ (0 < (Sp.mk s.p a).n ∧ lo D ⟨s.p, a⟩ ≤ k ∧ k ≤ hi D ⟨s.p, a⟩)) := by
  unfold lo hi
  show (0 < s.n ∧ (s.p / (D : Int)).toNat ≤ k ∧ k ≤ ((s.p + s.n - 1) / (D : Int)).toNat) ↔ ((0 < s.n - a ∧ ((s.p + a) / (D : Int)).toNat ≤ k ∧ k ≤ ((s.p + a + (s.n - a) - 1) / (D : Int)).toNat) ∨ (0 < a ∧ (s.p / (D : Int)).toNat ≤ k ∧ k ≤ ((s.p + a - 1) / (D : Int)).toNat))
  rw [show s.p + a + (s.n - a) - 1 = s.p + s.n - 1 by omega]
  have hDi : (0 : Int) < D := by omega
  have m1 := Int.ediv_le_ediv hDi (show s.p ≤ s.p + a by omega)
  have m0 : 0 ≤ s.p / (D : Int) := Int.ediv_nonneg h0 (by omega)
  by_cases h1 : 0 < a
  · by_cases h2 : 0 < s.n - a
    · have m2 := Int.ediv_le_ediv hDi (show s.p ≤ s.p + a - 1 by omega)
      have m3 := Int.ediv_le_ediv hDi (show s.p + a - 1 ≤ s.p + s.n - 1 by omega)
      have m5 := Int.ediv_le_ediv hDi (show s.p + a ≤ s.p + s.n - 1 by omega)
      have m4 : (s.p + a) / (D : Int) ≤ (s.p + a - 1) / (D : Int) + 1 := by
        have e1 := Int.ediv_le_ediv hDi (show s.p + a ≤ s.p + a - 1 + D * 1 by omega)
        rw [Int.add_mul_ediv_left _ _ (by omega)] at e1
        exact e1
      omega
    · have : a = s.n := by omega
      subst this
      omega
  · have : a = 0 := by omega
    subst this
    simp only [Int.sub_zero, Int.add_zero]
    omega
end Go.Proofs.Ytalkcemelegohaa.Ad
