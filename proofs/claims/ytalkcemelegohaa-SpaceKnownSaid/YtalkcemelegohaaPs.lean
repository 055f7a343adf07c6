/- Address spaces: what is mapped is unmapped again, the heap is as it was; plain. -/
import Derived.Test.YtalkcemelegohaaSC
import Derived.Test.YtalkcemelegohaaSn
set_option linter.unusedVariables false
set_option maxRecDepth 100000
namespace Go.Proofs.Ytalkcemelegohaa
open Go.RowKit Go.Cof
open Vm (Rg encRg rgV checkE prm lastR Fol Fine Made atP hasP)

theorem SRes.ex {xs : List Rg} {h e : Int} {v : Value} {L : List HProp} (hv : SRes (xs, h, e) v L) : ∃ A m c, m = xs.length ∧ v = .tuple #[.agg #[.slice A m c, iV h], iV e] ∧ L = [own encRg A m c xs] := by
  obtain ⟨⟨A, m, c, ys⟩, h1, h2, h3, h4⟩ := hv
  obtain rfl : ys = xs := h1
  exact ⟨A, m, c, h2, h3, h4⟩
theorem MRes.ex {xs : List Rg} {h p e : Int} {v : Value} {L : List HProp} (hv : MRes (xs, h, p, e) v L) : ∃ A m c, m = xs.length ∧ v = .tuple #[.agg #[.slice A m c, iV h], iV p, iV e] ∧ L = [own encRg A m c xs] := by
  obtain ⟨⟨A, m, c, ys⟩, h1, h2, h3, h4⟩ := hv
  obtain rfl : ys = xs := h1
  exact ⟨A, m, c, h2, h3, h4⟩
theorem mapM_0 {x : List Rg × Int} {h p hh at_ : Int} {a : List Rg} (hm : mapM x h p = (a, hh, at_, 0)) : x = (a, 0) ∧ hh = h ∧ at_ = p := by
  obtain ⟨xs, e⟩ := x
  unfold mapM at hm
  by_cases he : e = 0
  · subst he; rw [if_pos rfl] at hm; cases hm; exact ⟨rfl, rfl, rfl⟩
  · rw [if_neg he] at hm; cases hm; exact absurd rfl he
/-- A Map that is done. -/
structure Mapped (l : List Rg) (h p n q : Int) (a : List Rg) (hh at_ : Int) : Prop where
  was : SGood l h
  hp : hh = h
  low : lowP at_ n
  pq : prm q = true
  put : Vm.putP l ⟨at_, n, q⟩ = (a, 0)
  ap : ¬ p = 0 → at_ = p
  gap : p = 0 → Vm.gapP l n 1 524288 = (at_, true, 0)
theorem map_done {l a : List Rg} {h p n q hh at_ : Int} (hm : mapF l h p n q = (a, hh, at_, 0)) : Mapped l h p n q a hh at_ := by
  by_cases hz : scheck l h = 0
  · by_cases hg : (1 ≤ n ∧ n ≤ 64) ∧ (p = 0 ∨ lowP p n) ∧ prm q = true
    · by_cases hp : p = 0
      · subst hp
        obtain ⟨⟨gat, gok, ge⟩, hX⟩ : ∃ X, Vm.gapP l n 1 524288 = X := ⟨_, rfl⟩
        by_cases hok : gok = true ∧ ge = 0
        · rw [mapF_5 hz ⟨hg.1, hg.2.2⟩ hX hok] at hm
          obtain ⟨h1, h2, h3⟩ := mapM_0 hm
          obtain ⟨rfl, rfl⟩ := hok
          subst h3
          refine ⟨sgood_iff.1 hz, h2, ?_, hg.2.2, h1, fun h => absurd rfl h, fun _ => hX⟩
          have hs := sgood_iff.1 hz
          unfold Vm.gapP at hX
          rw [if_neg (by rw [Vm.fine_iff.2 hs.fine]; omega), if_neg (by omega)] at hX
          obtain ⟨g1, g2, g3, g4⟩ := Vm.gap_from hs.fine.good (n := n) (f := 1) (by omega)
          generalize Vm.gapL n (l.drop (Vm.firstN l 1)) 1 = g at g1 g2 g3 g4 hX
          by_cases hgt : g > 524288 - n
          · rw [if_pos hgt] at hX; cases hX
          · rw [if_neg hgt] at hX; cases hX
            exact ⟨by omega, by omega, by omega, by omega⟩
        · rw [mapF_4 hz ⟨hg.1, hg.2.2⟩ hX hok] at hm; cases hm
      · rw [mapF_3 hz hg hp] at hm
        obtain ⟨h1, h2, h3⟩ := mapM_0 hm
        subst h3
        exact ⟨sgood_iff.1 hz, h2, hg.2.1.resolve_left hp, hg.2.2, h1, fun _ => rfl, fun h => absurd h hp⟩
    · rw [mapF_2 hz hg] at hm; cases hm
  · rw [mapF_1 hz] at hm; exact absurd (congrArg (fun x => x.2.2.2) hm) hz
theorem Mapped.made {l a : List Rg} {h p n q hh at_ : Int} (m : Mapped l h p n q a hh at_) : Made l a at_ (at_ + n) (some q) := (Vm.put_made m.put).1
theorem Mapped.good {l a : List Rg} {h p n q hh at_ : Int} (m : Mapped l h p n q a hh at_) : SGood a h := m.was.low m.made (by have := m.low; unfold lowP at this; omega)
theorem map_back {l a : List Rg} {h p n q hh at_ : Int} (m : Mapped l h p n q a hh at_) : unmapF a h at_ n = (l, h, 0) := by
  unfold unmapF
  have hl := m.low
  rw [if_neg (by rw [sgood_iff.2 m.good]; omega), if_neg (fun h => h hl)]
  have e : Vm.cutP a at_ n = (l, 0) := Vm.back_cut m.put
  rw [e]; rfl
theorem brk_back {l a : List Rg} {h n k : Int} (hs : SGood l h) (hb : brkF l h n = (a, k, 0)) : brkF a n h = (l, h, 0) := by
  obtain ⟨rfl, ha, hn, hlow⟩ := brk_made hs hb
  have h0 := hs.rng
  rw [brk_doc ha ⟨h0, by omega, by omega⟩]
  obtain ⟨c, hc, m⟩ := cut_heap ha
  have hat : ∀ p, atP c p = if 524288 ≤ p then none else atP l p := fun p => by
    rw [m.at_]
    by_cases k1 : 524288 ≤ p
    · rw [if_pos k1]
      by_cases k2 : p < 525312
      · rw [if_pos ⟨k1, k2⟩]
      · rw [if_neg (by omega), ha.at_ p k1, if_neg (by omega)]
    · rw [if_neg (by omega), if_neg k1, hlow p (by omega)]
  unfold brkQ
  rw [hc]
  by_cases hp : h > 0
  · rw [if_pos hp]
    have hr : (⟨524288, h, 3⟩ : Rg).Ok := ⟨by show (1 : Int) ≤ 524288; omega, by show 1 ≤ h; omega, by show (524288 : Int) + h ≤ 1048576; omega, .inr (.inr rfl)⟩
    have e : Vm.putP c ⟨524288, h, 3⟩ = (l, 0) := Vm.put_to m.fine hs.fine hr (fun p k1 k2 => by rw [hat, if_pos k1]) fun p => by
      show atP l p = if 524288 ≤ p ∧ p < 524288 + h then some 3 else atP c p
      rw [hat]
      by_cases k1 : 524288 ≤ p
      · rw [hs.at_ p k1, if_pos k1]
        by_cases k2 : p < 524288 + h
        · rw [if_pos k2, if_pos ⟨k1, k2⟩]
        · rw [if_neg k2, if_neg (by omega)]
      · rw [if_neg (by omega), if_neg k1]
    show madeF (Vm.putP c ⟨524288, h, 3⟩) h = _
    rw [e]; rfl
  · rw [if_neg hp]
    have e : l = c := hs.fine.good.unique m.fine.good fun p => by
      rw [hat]
      by_cases k1 : 524288 ≤ p
      · rw [if_pos k1, hs.at_ p k1, if_neg (by omega)]
      · rw [if_neg k1]
    rw [← e]; rfl
theorem brk_was {l a : List Rg} {h n k : Int} (hb : brkF l h n = (a, k, 0)) : SGood l h := by
  by_cases hz : scheck l h = 0
  · exact sgood_iff.1 hz
  · rw [brkF_1 hz] at hb; exact absurd (congrArg (fun x => x.2.2) hb) hz
end Go.Proofs.Ytalkcemelegohaa
