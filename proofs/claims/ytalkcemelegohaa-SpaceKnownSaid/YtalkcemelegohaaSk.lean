/- Address spaces page by page: what may be; plain. -/
import Derived.Test.YtalkcemelegohaaSC
import Derived.Test.YtalkcemelegohaaVmPc
import Derived.Test.YtalkcemelegohaaVmLe
import Derived.Test.YtalkcemelegohaaVmLn
set_option linter.unusedVariables false
set_option maxRecDepth 100000
namespace Go.Proofs.Ytalkcemelegohaa
open Go.RowKit Go.Cof
open Vm (Rg encRg rgV checkE prm lastR Fol Good Fine Made atP hasP)

theorem LRes.ex {α : Type} {E : Enc α} {xs : List α} {r v : Value} {L : List HProp} (h : LRes E xs r v L) : ∃ A m c ys, ys = xs ∧ m = ys.length ∧ v = .tuple #[.slice A m c, r] ∧ L = [own E A m c ys] := by
  obtain ⟨⟨A, m, c, ys⟩, h1, h2, h3, h4⟩ := h; exact ⟨A, m, c, ys, h1, h2, h3, h4⟩
/-- An address space that may be, by its pages. -/
structure SGood (l : List Rg) (h : Int) : Prop where
  fine : Fine l
  rng : 0 ≤ h ∧ h ≤ 1024
  at_ : ∀ p, 524288 ≤ p → atP l p = if p < 524288 + h then some 3 else none
theorem at_in {l : List Rg} (hg : Vm.Good l) {r : Rg} (hr : r ∈ l) {p : Int} (h1 : r.p ≤ p) (h2 : p < r.end) : atP l p = some r.m := by
  cases ha : atP l p with
  | none =>
    exfalso
    unfold Vm.atP at ha
    rw [Option.map_eq_none_iff, List.find?_eq_none] at ha
    exact ha r hr (Vm.hasP_iff.2 ⟨h1, h2⟩)
  | some m =>
    obtain ⟨x, hx, g1, g2, g3⟩ := Vm.atP_mem ha
    rw [← g3]
    by_cases he : x = r
    · rw [he]
    · exfalso
      obtain ⟨i, hi, rfl⟩ := List.getElem_of_mem hx
      obtain ⟨j, hj, rfl⟩ := List.getElem_of_mem hr
      have hpw := List.pairwise_iff_getElem.1 hg.pw
      rcases Nat.lt_trichotomy i j with h | h | h
      · have := (hpw i j hi hj h).le; omega
      · subst h; exact he rfl
      · have := (hpw j i hj hi h).le; omega
theorem scheck_iff {l : List Rg} {h : Int} : scheck l h = 0 ↔ checkE l = 0 ∧ (0 ≤ h ∧ h ≤ 1024) ∧ ¬ (0 < heapL l ∧ (524288 < (lastR l).p ∨ (lastR l).m ≠ 3)) ∧ heapL l = h := by
  unfold scheck
  by_cases hc : checkE l = 0
  · rw [if_neg (by omega)]
    by_cases h1 : h < 0 ∨ 1024 < h
    · rw [if_pos h1]; constructor
      · intro h; omega
      · intro h; omega
    · rw [if_neg h1]
      by_cases h2 : 0 < heapL l ∧ (524288 < (lastR l).p ∨ (lastR l).m ≠ 3)
      · rw [if_pos h2]; constructor
        · intro h; omega
        · intro h; exact absurd h2 h.2.2.1
      · rw [if_neg h2]
        by_cases h3 : heapL l = h
        · rw [if_pos h3]; exact ⟨fun _ => ⟨hc, by omega, h2, h3⟩, fun _ => rfl⟩
        · rw [if_neg h3]; exact ⟨fun h => by omega, fun h => absurd h.2.2.2 h3⟩
  · rw [if_pos hc]
    exact ⟨fun h => absurd h hc, fun h => absurd h.1 hc⟩
theorem sgood_iff {l : List Rg} {h : Int} : scheck l h = 0 ↔ SGood l h := by
  rw [scheck_iff]
  constructor
  · intro ⟨hc, hr, h1, h2⟩
    have hf := Vm.fine_iff.1 hc
    refine ⟨hf, hr, fun p hp => ?_⟩
    rcases List.eq_nil_or_concat l with rfl | ⟨l, x, rfl⟩
    · have : heapL ([] : List Rg) = 0 := rfl
      rw [if_neg (by omega)]; rfl
    · rw [List.concat_eq_append] at hf h1 h2 ⊢
      have hL : heapL (l ++ [x]) = if 0 ≤ x.end - 524288 then x.end - 524288 else 0 := by
        unfold heapL; rw [if_neg (by simp), lastR_snoc]
      rw [lastR_snoc] at h1
      have hpw := List.pairwise_append.1 hf.good.pw
      have hx := (hf.good.ok x (by simp)).lt
      have hlow : ∀ r ∈ l, r.end ≤ x.p := fun r hr => (hpw.2.2 r hr x (by simp)).le
      rw [hL] at h1 h2
      have hxp : 524288 < x.end → x.p ≤ 524288 ∧ x.m = 3 ∧ x.end = 524288 + h := fun he => by
        rw [if_pos (by omega)] at h1 h2
        omega
      have hxe : ¬ 524288 < x.end → h = 0 := fun he => by
        split at h2 <;> omega
      by_cases he : 524288 < x.end
      · obtain ⟨k1, k2, k3⟩ := hxp he
        by_cases hin : p < 524288 + h
        · rw [if_pos hin, at_in hf.good (r := x) (by simp) (by omega) (by omega), k2]
        · rw [if_neg hin]
          exact Vm.atP_none fun r hr => by
            rcases List.mem_append.1 hr with hr | hr
            · have := hlow r hr; omega
            · obtain rfl := List.mem_singleton.1 hr; omega
      · have := hxe he
        rw [if_neg (by omega)]
        exact Vm.atP_none fun r hr => by
          rcases List.mem_append.1 hr with hr | hr
          · have := hlow r hr; omega
          · obtain rfl := List.mem_singleton.1 hr; omega
  · intro ⟨hf, hr, hat⟩
    refine ⟨Vm.fine_iff.2 hf, hr, ?_⟩
    rcases List.eq_nil_or_concat l with rfl | ⟨l, x, rfl⟩
    · have e : heapL ([] : List Rg) = 0 := rfl
      have := hat 524288 (Int.le_refl _)
      rw [show atP [] 524288 = none from rfl] at this
      by_cases hh : 524288 < 524288 + h
      · rw [if_pos hh] at this; cases this
      · rw [e]; exact ⟨by omega, by omega⟩
    · rw [List.concat_eq_append] at hf hat ⊢
      have hL : heapL (l ++ [x]) = if 0 ≤ x.end - 524288 then x.end - 524288 else 0 := by
        unfold heapL; rw [if_neg (by simp), lastR_snoc]
      rw [hL, lastR_snoc]
      have hpw := List.pairwise_append.1 hf.good.pw
      have hx := (hf.good.ok x (by simp)).lt
      have hlow : ∀ r ∈ l, Fol r x := fun r hr => hpw.2.2 r hr x (by simp)
      by_cases he : 524288 < x.end
      · have h1 := hat (x.end - 1) (by omega)
        rw [at_in hf.good (r := x) (by simp) (by omega) (by omega)] at h1
        by_cases hin : x.end - 1 < 524288 + h
        · rw [if_pos hin] at h1
          have hm : x.m = 3 := Option.some.inj h1
          have h2 := hat (524288 + h - 1) (by omega)
          rw [if_pos (by omega)] at h2
          obtain ⟨r, hr, g1, g2, g3⟩ := Vm.atP_mem h2
          have hE : x.end = 524288 + h := by
            rcases List.mem_append.1 hr with hr | hr
            · have := (hlow r hr).le; omega
            · obtain rfl := List.mem_singleton.1 hr; omega
          have hp : ¬ 524288 < x.p := fun hp => by
            have h3 := hat (x.p - 1) (by omega)
            rw [if_pos (by omega)] at h3
            obtain ⟨y, hy, k1, k2, k3⟩ := Vm.atP_mem h3
            rcases List.mem_append.1 hy with hy | hy
            · rcases hlow y hy with q | q
              · omega
              · exact q.2 (k3.trans hm.symm)
            · obtain rfl := List.mem_singleton.1 hy; omega
          rw [if_pos (by omega)]
          exact ⟨by omega, by omega⟩
        · rw [if_neg hin] at h1; cases h1
      · have h1 := hat 524288 (Int.le_refl _)
        rw [Vm.atP_none fun r hr => by
          rcases List.mem_append.1 hr with hr | hr
          · have := (hlow r hr).le; omega
          · obtain rfl := List.mem_singleton.1 hr; omega] at h1
        have h0 : h = 0 := by
          by_cases hh : 524288 < 524288 + h
          · rw [if_pos hh] at h1; cases h1
          · omega
        have e2 : (if 0 ≤ x.end - 524288 then x.end - 524288 else 0) = 0 := by split <;> omega
        rw [e2]
        exact ⟨by omega, by omega⟩
theorem SGood.low {l a : List Rg} {h f t : Int} {x : Option Int} (hs : SGood l h) (m : Made l a f t x) (ht : t ≤ 524288) : SGood a h :=
  ⟨m.fine, hs.rng, fun p hp => by rw [m.at_, if_neg (by omega)]; exact hs.at_ p hp⟩
/-! Brk -/
def brkOk (h n : Int) : Prop := (0 ≤ n ∧ n ≤ 1024) ∧ n ≤ h + 64 ∧ h - 64 ≤ n
def brkF (l : List Rg) (h n : Int) : List Rg × Int × Int :=
  if scheck l h ≠ 0 then ([], 0, scheck l h) else if ¬ ((0 ≤ n ∧ n ≤ 1024) ∧ n ≤ h + 64 ∧ h - 64 ≤ n) then ([], 0, 2) else
  if n - h > 0 then madeF (Vm.putP l ⟨524288 + h, n - h, 3⟩) n else if n - h < 0 then madeF (Vm.cutP l (524288 + n) (-(n - h))) n else (l, n, 0)
/-- The document's Brk: the heap is cut, and put in anew. -/
def brkQ (l : List Rg) (n : Int) : List Rg × Int × Int :=
  if n > 0 then madeF (Vm.putP (Vm.cutP l 524288 1024).1 ⟨524288, n, 3⟩) n else madeF (Vm.cutP l 524288 1024) n
theorem cut_heap {l : List Rg} {h : Int} (hs : SGood l h) : ∃ a, Vm.cutP l 524288 1024 = (a, 0) ∧ Made l a 524288 525312 none := by
  have hb : Vm.betw l 525312 1048576 = [] := Vm.betw_out fun r hr => by
    rcases Int.lt_or_le 525312 r.end with h1 | h1
    · exfalso
      have hlt := (hs.fine.good.ok r hr).lt
      have := hs.at_ (r.end - 1) (by omega)
      rw [at_in hs.fine.good hr (by omega) (by omega), if_neg (by have := hs.rng; omega)] at this
      cases this
    · exact h1
  have hlen : (Vm.newL l 524288 525312 []).length ≤ 1024 := by
    unfold Vm.newL
    rw [hb]
    have h1 := Vm.fold_length (Vm.betw l 0 524288 ++ [] ++ []) []
    have h2 : (Vm.betw l 0 524288).length ≤ l.length := List.length_filterMap_le ..
    have h3 := hs.fine.len
    simp only [List.length_append, List.length_nil] at h1
    omega
  have e : Vm.cutP l 524288 1024 = Vm.fewP (Vm.newL l 524288 525312 []) := Vm.cutP_eq hs.fine (p := 524288) (n := 1024) (by omega) (by omega) (by omega)
  rw [Vm.fewP_fine hlen] at e
  exact ⟨_, e, by have := Vm.cut_made e; exact this⟩
theorem brk_doc {l : List Rg} {h n : Int} (hs : SGood l h) (hn : (0 ≤ n ∧ n ≤ 1024) ∧ n ≤ h + 64 ∧ h - 64 ≤ n) : brkF l h n = brkQ l n := by
  obtain ⟨a, ha, m⟩ := cut_heap hs
  have h0 := hs.rng
  unfold brkF brkQ
  rw [if_neg (by rw [sgood_iff.2 hs]; omega), if_neg (fun h => h hn), ha]
  show _ = if n > 0 then madeF (Vm.putP a ⟨524288, n, 3⟩) n else madeF (a, 0) n
  by_cases hp : n > 0
  · rw [if_pos hp]
    have hr : (⟨524288, n, 3⟩ : Rg).Ok := ⟨by show (1 : Int) ≤ 524288; omega, by show 1 ≤ n; omega, by show (524288 : Int) + n ≤ 1048576; omega, .inr (.inr rfl)⟩
    rw [(Vm.putP_eq m.fine hr).1 fun p h1 h2 => by rw [m.at_, if_pos]; exact ⟨h1, by have h2 : p < 524288 + n := h2; omega⟩]
    obtain ⟨g1, g2⟩ := Vm.new_put m.fine.good hr
    have g2 : ∀ p, atP (Vm.newL a 524288 (524288 + n) [⟨524288, n, 3⟩]) p = if 524288 ≤ p then (if p < 524288 + n then some 3 else none) else atP l p := fun p => by
      refine (g2 p).trans ?_
      show (if 524288 ≤ p ∧ p < 524288 + n then _ else _) = _
      rw [m.at_]
      by_cases k1 : 524288 ≤ p
      · rw [if_pos k1]
        by_cases k2 : p < 524288 + n
        · rw [if_pos ⟨k1, k2⟩, if_pos k2]
        · rw [if_neg (by omega), if_neg k2]
          by_cases k3 : p < 525312
          · rw [if_pos ⟨k1, k3⟩]
          · rw [if_neg (by omega), hs.at_ p k1, if_neg (by omega)]
      · rw [if_neg (by omega), if_neg k1, if_neg (by omega)]
    show _ = madeF (Vm.fewP (Vm.newL a 524288 (524288 + n) [⟨524288, n, 3⟩])) n
    by_cases h1 : n - h > 0
    · rw [if_pos h1]
      have hr2 : (⟨524288 + h, n - h, 3⟩ : Rg).Ok := ⟨by show (1 : Int) ≤ 524288 + h; omega, by show 1 ≤ n - h; omega, by show (524288 + h : Int) + (n - h) ≤ 1048576; omega, .inr (.inr rfl)⟩
      have hfree : ∀ p, 524288 + h ≤ p → p < 524288 + h + (n - h) → atP l p = none := fun p k1 k2 => by rw [hs.at_ p (by omega), if_neg (by omega)]
      obtain ⟨q1, q2⟩ := Vm.new_put hs.fine.good hr2
      rw [(Vm.putP_eq hs.fine hr2).1 hfree]
      refine congrArg (fun z => madeF (Vm.fewP z) n) (q1.unique g1 fun p => ?_)
      rw [g2]
      refine (q2 p).trans ?_
      show (if 524288 + h ≤ p ∧ p < 524288 + h + (n - h) then _ else _) = _
      by_cases k1 : 524288 ≤ p
      · rw [if_pos k1, hs.at_ p k1]
        by_cases k2 : p < 524288 + n
        · rw [if_pos k2]
          by_cases k3 : 524288 + h ≤ p
          · rw [if_pos (by omega)]
          · rw [if_neg (by omega), if_pos (by omega)]
        · rw [if_neg (by omega), if_neg (by omega), if_neg k2]
      · rw [if_neg (by omega), if_neg k1]
    · rw [if_neg h1]
      by_cases h2 : n - h < 0
      · rw [if_pos h2]
        rw [Vm.cutP_eq hs.fine (p := 524288 + n) (n := -(n - h)) (by omega) (by omega) (by omega)]
        obtain ⟨q1, q2⟩ := Vm.new_cut hs.fine.good (f := 524288 + n) (t := 524288 + n + -(n - h)) (by omega) (by omega) (by omega)
        refine congrArg (fun z => madeF (Vm.fewP z) n) (q1.unique g1 fun p => ?_)
        rw [g2, q2]
        by_cases k1 : 524288 ≤ p
        · rw [if_pos k1, hs.at_ p k1]
          by_cases k2 : p < 524288 + n
          · rw [if_pos k2, if_neg (by omega), if_pos (by omega)]
          · rw [if_neg k2]
            by_cases k3 : p < 524288 + h
            · rw [if_pos (by omega)]
            · rw [if_neg (by omega), if_neg k3]
        · rw [if_neg (by omega), if_neg k1]
      · rw [if_neg h2]
        have hh : h = n := by omega
        have e : l = Vm.newL a 524288 (524288 + n) [⟨524288, n, 3⟩] := hs.fine.good.unique g1 fun p => by
          rw [g2]
          by_cases k1 : 524288 ≤ p
          · rw [if_pos k1, hs.at_ p k1, hh]
          · rw [if_neg k1]
        rw [← e, Vm.fewP_fine hs.fine.len]
        rfl
  · rw [if_neg hp]
    have hn0 : n = 0 := by omega
    rw [if_neg (by omega)]
    by_cases h2 : n - h < 0
    · rw [if_pos h2, Vm.cut_to hs.fine m.fine (by omega) (by omega) (by omega) fun p => ?_]
      rw [m.at_]
      by_cases k1 : 524288 ≤ p
      · by_cases k3 : p < 525312
        · rw [if_pos ⟨k1, k3⟩]
          by_cases k4 : p < 524288 + h
          · rw [if_pos (by omega)]
          · rw [if_neg (by omega), hs.at_ p k1, if_neg (by omega)]
        · rw [if_neg (by omega), if_neg (by omega)]
      · rw [if_neg (by omega), if_neg (by omega)]
    · rw [if_neg h2]
      have e : l = a := hs.fine.good.unique m.fine.good fun p => by
        rw [m.at_]
        by_cases k1 : 524288 ≤ p
        · rw [hs.at_ p k1, if_neg (by omega)]
          split <;> rfl
        · rw [if_neg (by omega)]
      rw [← e]; rfl
theorem madeF_0 {x : List Rg × Int} {h n : Int} {a : List Rg} (hm : madeF x h = (a, n, 0)) : x = (a, 0) ∧ n = h := by
  obtain ⟨xs, e⟩ := x
  unfold madeF at hm
  by_cases he : e = 0
  · subst he; rw [if_pos rfl] at hm; cases hm; exact ⟨rfl, rfl⟩
  · rw [if_neg he] at hm; cases hm; exact absurd rfl he
theorem brkF_2 {l : List Rg} {h n : Int} (hs : SGood l h) (hn : ¬ ((0 ≤ n ∧ n ≤ 1024) ∧ n ≤ h + 64 ∧ h - 64 ≤ n)) : brkF l h n = ([], 0, 2) := by
  unfold brkF; rw [if_neg (by rw [sgood_iff.2 hs]; omega), if_pos hn]
theorem brkF_1 {l : List Rg} {h n : Int} (hs : ¬ scheck l h = 0) : brkF l h n = ([], 0, scheck l h) := by
  unfold brkF; rw [if_pos hs]
/-- What Brk makes: each page. -/
theorem brk_made {l : List Rg} {h n k : Int} (hs : SGood l h) {a : List Rg} (hb : brkF l h n = (a, k, 0)) : k = n ∧ SGood a n ∧ ((0 ≤ n ∧ n ≤ 1024) ∧ n ≤ h + 64 ∧ h - 64 ≤ n) ∧ ∀ p, p < 524288 → atP a p = atP l p := by
  by_cases hn : (0 ≤ n ∧ n ≤ 1024) ∧ n ≤ h + 64 ∧ h - 64 ≤ n
  · rw [brk_doc hs hn] at hb
    obtain ⟨c, hc, m⟩ := cut_heap hs
    unfold brkQ at hb
    rw [hc] at hb
    by_cases hp : n > 0
    · rw [if_pos hp] at hb
      obtain ⟨h1, h2⟩ := madeF_0 hb
      obtain ⟨m2, hr, hf⟩ := Vm.put_made h1
      have k2 : ∀ p, atP a p = if 524288 ≤ p ∧ p < 524288 + n then some 3 else atP c p := m2.at_
      refine ⟨h2, ⟨m2.fine, hn.1, fun p hp => ?_⟩, hn, fun p hp => ?_⟩
      · rw [k2]
        by_cases q : p < 524288 + n
        · rw [if_pos ⟨hp, q⟩, if_pos q]
        · rw [if_neg (by omega), if_neg q, m.at_]
          by_cases q2 : p < 525312
          · rw [if_pos ⟨hp, q2⟩]
          · rw [if_neg (by omega), hs.at_ p hp, if_neg (by have := hs.rng; omega)]
      · rw [k2, if_neg (by omega), m.at_, if_neg (by omega)]
    · rw [if_neg hp] at hb
      obtain ⟨h1, h2⟩ := madeF_0 hb
      cases h1
      refine ⟨h2, ⟨m.fine, hn.1, fun p hp => ?_⟩, hn, fun p hp => ?_⟩
      · rw [m.at_, if_neg (show ¬ p < 524288 + n by omega)]
        by_cases q2 : p < 525312
        · rw [if_pos ⟨hp, q2⟩]
        · rw [if_neg (by omega), hs.at_ p hp, if_neg (by have := hs.rng; omega)]
      · rw [m.at_, if_neg (by omega)]
  · rw [brkF_2 hs hn] at hb; cases hb
end Go.Proofs.Ytalkcemelegohaa
