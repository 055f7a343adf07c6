/- Tables that are counted: few spans. -/
import Derived.Test.YtalkcemelegohaaAdWc
set_option linter.unusedVariables false
set_option maxRecDepth 100000
namespace Go.Proofs.Ytalkcemelegohaa.Ad
open Go.RowKit Go.Cof

theorem tabsF_ok {l : List Sp} (h : (tabsF l).2 = 0) : l.length ≤ 1024 ∧ (∀ s ∈ l, s.May) ∧ tabsF l = ((total l : Int), 0) := by
  unfold tabsF at h ⊢
  by_cases h1 : 1024 < l.length
  · rw [if_pos h1] at h; cases h
  · rw [if_neg h1] at h ⊢
    by_cases h2 : ∀ s ∈ l, s.May
    · rw [if_pos h2]; exact ⟨by omega, h2, rfl⟩
    · rw [if_neg h2] at h; cases h
theorem tabsF_of {l : List Sp} (h1 : l.length ≤ 1024) (h2 : ∀ s ∈ l, s.May) : tabsF l = ((total l : Int), 0) := by
  unfold tabsF; rw [if_neg (by omega), if_pos h2]
theorem may64 {s : Sp} (h : s.May) : i64In s.p ∧ i64In s.n := by
  obtain ⟨h0, h1, h2, h3⟩ := h
  exact ⟨⟨by omega, by omega⟩, ⟨by omega, by omega⟩⟩
theorem total_cap (l : List Sp) : 1 ≤ total l ∧ total l ≤ 33825 := by
  have h1 := marks_cap 32 32768 l
  have h2 := marks_cap 1024 1024 l
  have h3 := marks_cap 32768 32 l
  unfold total; omega
theorem cnt_mk (D M : Nat) : cntB (marks D M []) = 0 := cnt_none M
theorem marks1 {D M : Nat} {s : Sp} : marks D M [s] = mark D (marks D M []) s := marks_snoc (l := [])
theorem cnt1 {D M : Nat} {s : Sp} {rest : List Sp} (hD : 0 < D) (hn : 0 < s.n) (hr : ∀ t ∈ rest, s.p ≤ t.p) (hl : hi D s < M) : cntB (marks D M [s]) = hi D s - lo D s + 1 ∧ Sw D (marks D M [s]) (hi D s + 1) rest := by
  have h := Sw.go hD (Sw.start D M (s :: rest)) hr hn (by rw [marks_len]; exact hl) (by have := lo_le_hi hD hn; omega)
  rw [marks1]
  refine ⟨?_, h.2⟩
  have h1 := h.1
  rw [cnt_mk] at h1
  omega
theorem cnt2go {D M : Nat} {s t : Sp} (hD : 0 < D) (hn : 0 < s.n) (hn2 : 0 < t.n) (hr : s.p ≤ t.p) (hl : hi D s < M) (hl2 : hi D t < M) (hlo : hi D s < lo D t) : cntB (marks D M [s, t]) = (hi D s - lo D s + 1) + (hi D t - lo D t + 1) := by
  have h := cnt1 (M := M) (rest := [t]) hD hn (fun x hx => by rw [List.mem_singleton.1 hx]; exact hr) hl
  have h2 := Sw.go hD h.2 (fun x hx => by cases hx) hn2 (by rw [marks_len]; exact hl2) (by have := lo_le_hi hD hn2; omega)
  have e : marks D M [s, t] = mark D (marks D M [s]) t := marks_snoc (l := [s])
  rw [e]
  have h3 := h2.1
  rw [h.1] at h3
  omega
theorem cnt2stay {D M : Nat} {s t : Sp} (hD : 0 < D) (hn : 0 < s.n) (hn2 : 0 < t.n) (hr : s.p ≤ t.p) (hl : hi D s < M) (hlo : hi D t ≤ hi D s) : cntB (marks D M [s, t]) = hi D s - lo D s + 1 := by
  have h := cnt1 (M := M) (rest := [t]) hD hn (fun x hx => by rw [List.mem_singleton.1 hx]; exact hr) hl
  have h2 := Sw.stay h.2 (by omega) hD hn2
  have e : marks D M [s, t] = mark D (marks D M [s]) t := marks_snoc (l := [s])
  rw [e, h2.1]
  exact h.1
theorem mark0 {D : Nat} {b : List Bool} {s : Sp} (h : ¬ 0 < s.n) : mark D b s = b := if_neg h
theorem tot0 : total [] = 1 := by unfold total; rw [cnt_mk, cnt_mk, cnt_mk]
theorem total_of {l : List Sp} {a b c n : Nat} (h1 : cntB (marks 32 32768 l) = a) (h2 : cntB (marks 1024 1024 l) = b) (h3 : cntB (marks 32768 32 l) = c) (h : 1 + a + b + c = n) : total l = n := by unfold total; omega
end Go.Proofs.Ytalkcemelegohaa.Ad
