/- Sums of needs; plain. -/
import Derived.Test.YtalkcemelegohaaLf
import Derived.Test.YtalkcemelegohaaSr
set_option linter.unusedVariables false
set_option maxRecDepth 100000
namespace Go.Proofs.Ytalkcemelegohaa
open Go.RowKit Go.Cof
open Vm (Rg encRg rgV)
open Pl (Cd thE)

def totN : List Key → Nd
  | [] => ⟨0, 0, 0, 0⟩
  | k :: ks => ⟨1 + (totN ks).a, pagesN k.1 + (totN ks).b, tablesN k.1 + (totN ks).c, k.1.length + (totN ks).d⟩
theorem sumF_good : ∀ {ks : List Key} (a : Nd), (∀ k ∈ ks, scheck k.1 k.2 = 0) → sumF ks a = (⟨a.a + (totN ks).a, a.b + (totN ks).b, a.c + (totN ks).c, a.d + (totN ks).d⟩, 0)
  | [], a, _ => by
    show (a, (0 : Int)) = (⟨a.a + 0, a.b + 0, a.c + 0, a.d + 0⟩, 0)
    simp only [Int.add_zero]
  | k :: ks, a, h => by
    show (if scheck k.1 k.2 = 0 then sumF ks _ else _) = _
    rw [if_pos (h k (by simp)), sumF_good _ fun x hx => h x (by simp [hx])]
    show (Nd.mk (a.a + 1 + (totN ks).a) (a.b + pagesN k.1 + (totN ks).b) (a.c + tablesN k.1 + (totN ks).c) (a.d + (k.1.length : Int) + (totN ks).d), (0 : Int)) = (Nd.mk (a.a + (1 + (totN ks).a)) (a.b + (pagesN k.1 + (totN ks).b)) (a.c + (tablesN k.1 + (totN ks).c)) (a.d + ((k.1.length : Int) + (totN ks).d)), 0)
    simp only [Int.add_assoc]
theorem sumF_ok : ∀ {ks : List Key} {a n : Nd}, sumF ks a = (n, 0) → ∀ k ∈ ks, scheck k.1 k.2 = 0
  | [], a, n, _, k, hk => by cases hk
  | x :: ks, a, n, h, k, hk => by
    have h : (if scheck x.1 x.2 = 0 then sumF ks ⟨a.a + 1, a.b + pagesN x.1, a.c + tablesN x.1, a.d + x.1.length⟩ else (⟨0, 0, 0, 0⟩, scheck x.1 x.2)) = (n, (0 : Int)) := h
    by_cases hz : scheck x.1 x.2 = 0
    · rw [if_pos hz] at h
      rcases List.mem_cons.1 hk with rfl | hk
      · exact hz
      · exact sumF_ok h k hk
    · rw [if_neg hz] at h; exact absurd (congrArg Prod.snd h) hz
theorem sumF_bad : ∀ {ks : List Key} {a n : Nd} {e : Int}, sumF ks a = (n, e) → e ≠ 0 → n = ⟨0, 0, 0, 0⟩
  | [], a, n, e, h, he => by
    have h : (a, (0 : Int)) = (n, e) := h
    exact absurd (congrArg Prod.snd h).symm he
  | x :: ks, a, n, e, h, he => by
    have h : (if scheck x.1 x.2 = 0 then sumF ks ⟨a.a + 1, a.b + pagesN x.1, a.c + tablesN x.1, a.d + x.1.length⟩ else (⟨0, 0, 0, 0⟩, scheck x.1 x.2)) = (n, e) := h
    by_cases hz : scheck x.1 x.2 = 0
    · rw [if_pos hz] at h; exact sumF_bad h he
    · rw [if_neg hz] at h; exact (congrArg Prod.fst h).symm
theorem sumR_good {ks : List Key} (hl : ks.length ≤ 16) (h : ∀ k ∈ ks, scheck k.1 k.2 = 0) : sumR ks = (totN ks, 0) := by
  unfold sumR
  rw [if_neg (by omega), sumF_good _ h]
  simp only [Int.zero_add]
theorem sumR_ok {ks : List Key} {n : Nd} (h : sumR ks = (n, 0)) : ks.length ≤ 16 ∧ (∀ k ∈ ks, scheck k.1 k.2 = 0) ∧ n = totN ks := by
  by_cases hl : 16 < ks.length
  · unfold sumR at h; rw [if_pos hl] at h; cases h
  · have h2 := h
    unfold sumR at h; rw [if_neg hl] at h
    have hg := sumF_ok h
    rw [sumR_good (by omega) hg] at h2
    exact ⟨by omega, hg, (congrArg Prod.fst h2).symm⟩
theorem sumR_bad {ks : List Key} {n : Nd} {e : Int} (h : sumR ks = (n, e)) (he : e ≠ 0) : n = ⟨0, 0, 0, 0⟩ := by
  unfold sumR at h
  split at h
  · exact (congrArg Prod.fst h).symm
  · exact sumF_bad h he
theorem totN_append (a b : List Key) : totN (a ++ b) = ⟨(totN a).a + (totN b).a, (totN a).b + (totN b).b, (totN a).c + (totN b).c, (totN a).d + (totN b).d⟩ := by
  induction a with
  | nil => show totN b = ⟨0 + _, 0 + _, 0 + _, 0 + _⟩; simp only [Int.zero_add]
  | cons k a ih =>
    show Nd.mk (1 + (totN (a ++ b)).a) (pagesN k.1 + (totN (a ++ b)).b) (tablesN k.1 + (totN (a ++ b)).c) (k.1.length + (totN (a ++ b)).d) = _
    rw [ih]
    show _ = Nd.mk (1 + (totN a).a + (totN b).a) (pagesN k.1 + (totN a).b + (totN b).b) (tablesN k.1 + (totN a).c + (totN b).c) (k.1.length + (totN a).d + (totN b).d)
    simp only [Int.add_assoc]
theorem totN_reverse (a : List Key) : totN a.reverse = totN a := by
  induction a with
  | nil => rfl
  | cons k a ih =>
    rw [List.reverse_cons, totN_append, ih]
    show Nd.mk ((totN a).a + (1 + 0)) ((totN a).b + (pagesN k.1 + 0)) ((totN a).c + (tablesN k.1 + 0)) ((totN a).d + (k.1.length + 0)) = Nd.mk (1 + (totN a).a) (pagesN k.1 + (totN a).b) (tablesN k.1 + (totN a).c) (k.1.length + (totN a).d)
    simp only [Nd.mk.injEq]
    exact ⟨by omega, by omega, by omega, by omega⟩
theorem totN_len : ∀ (a : List Key), (totN a).a = a.length
  | [] => rfl
  | k :: a => by
    show 1 + (totN a).a = _
    rw [totN_len a, List.length_cons]; omega
theorem totN_pos : ∀ (a : List Key), (∀ k ∈ a, scheck k.1 k.2 = 0) → 0 ≤ (totN a).a ∧ 0 ≤ (totN a).b ∧ 0 ≤ (totN a).c ∧ 0 ≤ (totN a).d ∧ (totN a).b ≤ a.length * 1073741824 ∧ (totN a).c ≤ a.length * 33825 ∧ (totN a).d ≤ a.length * 1024
  | [], _ => by decide
  | k :: a, h => by
    obtain ⟨h1, h2, h3, h4, h5, h6, h7⟩ := totN_pos a fun x hx => h x (by simp [hx])
    have hg := sgood_iff.1 (h k (by simp))
    have p1 := pages_rng hg.fine
    have p2 := tables_rng k.1
    have p3 := hg.fine.len
    rw [List.length_cons]
    exact ⟨by show 0 ≤ 1 + (totN a).a; omega, by show 0 ≤ pagesN k.1 + (totN a).b; omega, by show 0 ≤ tablesN k.1 + (totN a).c; omega, by show 0 ≤ (k.1.length : Int) + (totN a).d; omega, by show pagesN k.1 + (totN a).b ≤ _; omega, by show tablesN k.1 + (totN a).c ≤ _; omega, by show (k.1.length : Int) + (totN a).d ≤ _; omega⟩
/-- What fits, fits with less. -/
theorem fit_less {d : Cd} {p : Int} {n k : Nd} (h : fitR d p n = (true, 0)) (h1 : 0 ≤ k.a ∧ k.a ≤ n.a) (h2 : 0 ≤ k.b ∧ k.b ≤ n.b) (h3 : 0 ≤ k.c ∧ k.c ≤ n.c) (h4 : 0 ≤ k.d ∧ k.d ≤ n.d) : fitR d p k = (true, 0) := by
  unfold fitR at h ⊢
  by_cases hz : thE d p = 0
  · rw [if_neg (by omega)] at h ⊢
    by_cases hn : negN n
    · rw [if_pos hn] at h; cases h
    · rw [if_neg hn] at h
      have hf : fitP d p n := of_decide_eq_true (congrArg Prod.fst h)
      rw [if_neg (by unfold negN; omega), decide_eq_true]
      unfold fitP at hf ⊢
      omega
  · rw [if_pos (by omega)] at h; cases h
end Go.Proofs.Ytalkcemelegohaa
