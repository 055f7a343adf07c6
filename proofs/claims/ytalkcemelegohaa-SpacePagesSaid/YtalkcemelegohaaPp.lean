/- Address spaces seen page by page: the steps; plain. -/
import Derived.Test.YtalkcemelegohaaPt
import Derived.Test.YtalkcemelegohaaSo
set_option linter.unusedVariables false
set_option maxRecDepth 100000
namespace Go.Proofs.Ytalkcemelegohaa
open Go.RowKit Go.Cof
open Vm (Rg encRg rgV checkE prm lastR Fol Fine Made atP hasP newL mc)

def pageN (i : Nat) : Int := if i < 120 then (i : Int) else 524128 + (i : Int)
def code (x : Option Int) : Int := match x with | none => 0 | some m => 1 + m
def seenL (l : List Rg) : List Int := (List.range 280).map fun i => code (atP l (pageN i))
theorem seenL_length (l : List Rg) : (seenL l).length = 280 := by simp [seenL]
theorem seenL_get (l : List Rg) {j : Nat} (h : j < 280) : Cof.get (seenL l) (j : Int) = code (atP l (pageN j)) := by
  rw [Vm.get_eq (by rw [seenL_length]; exact h)]
  simp [seenL]
def chg (xs : List Int) (f n put : Int) : List Int := (List.range 280).map fun i => if f ≤ pageN i ∧ pageN i < f + n then put else Cof.get xs (i : Int)
theorem chg_length (xs : List Int) (f n put : Int) : (chg xs f n put).length = 280 := by simp [chg]
theorem chg_get (xs : List Int) (f n put : Int) {j : Nat} (h : j < 280) : Cof.get (chg xs f n put) (j : Int) = if f ≤ pageN j ∧ pageN j < f + n then put else Cof.get xs (j : Int) := by
  rw [Vm.get_eq (by rw [chg_length]; exact h)]
  simp [chg]
theorem eq_280 {xs ys : List Int} (h1 : xs.length = 280) (h2 : ys.length = 280) (h : ∀ j : Nat, j < 280 → Cof.get xs (j : Int) = Cof.get ys (j : Int)) : xs = ys := by
  refine List.ext_getElem (by omega) fun i k1 k2 => ?_
  have := h i (by omega)
  rwa [Vm.get_eq k1, Vm.get_eq k2] at this
theorem chg_seen {l a : List Rg} {f n put : Int} (h : ∀ p, code (atP a p) = if f ≤ p ∧ p < f + n then put else code (atP l p)) : chg (seenL l) f n put = seenL a :=
  eq_280 (chg_length ..) (seenL_length _) fun j hj => by rw [chg_get _ _ _ _ hj, seenL_get _ hj, seenL_get _ hj, h]
theorem seen_nil : seenL [] = List.replicate 280 0 := by
  refine eq_280 (seenL_length _) (by simp) fun j hj => ?_
  rw [seenL_get _ hj, Vm.get_eq (by rw [List.length_replicate]; exact hj), List.getElem_replicate]
  rfl
theorem code_none {x : Option Int} (hx : ∀ m, x = some m → 0 ≤ m) : code x = 0 ↔ x = none := by
  cases x with
  | none => exact ⟨fun _ => rfl, fun _ => rfl⟩
  | some m =>
    have := hx m rfl
    have e : code (some m) = 1 + m := rfl
    exact ⟨fun h => by rw [e] at h; omega, fun h => by cases h⟩
theorem at_perm {l : List Rg} (h : Vm.Good l) {p m : Int} (hx : atP l p = some m) : m = 0 ∨ m = 1 ∨ m = 3 := by
  obtain ⟨r, hr, _, _, rfl⟩ := Vm.atP_mem hx
  exact (h.ok r hr).m
/-- Pages that all are looked at. -/
def Vis (f n : Int) : Prop := 0 ≤ n ∧ ((1 ≤ f ∧ f + n ≤ 120) ∨ (524248 ≤ f ∧ f + n ≤ 524408))
/-- How many of the pages from f on, so many, lie ahead of the page of a place. -/
def ahead (f n : Int) (i : Nat) : Int := if pageN i ≤ f then 0 else if f + n ≤ pageN i then n else pageN i - f
theorem ahead_step {f n : Int} (h : Vis f n) (i : Nat) : (f ≤ pageN i ∧ pageN i < f + n → ahead f n i = pageN i - f ∧ ahead f n (i + 1) = pageN i - f + 1) ∧ (¬ (f ≤ pageN i ∧ pageN i < f + n) → ahead f n (i + 1) = ahead f n i) := by
  unfold Vis at h
  unfold ahead pageN
  constructor
  · intro hc
    constructor
    · repeat' split
      all_goals (first | omega | (split at hc <;> omega))
    · repeat' split
      all_goals (first | omega | (split at hc <;> omega))
  · intro hc
    repeat' split
    all_goals (first | omega | (split at hc <;> omega))
theorem ahead_0 {f n : Int} (h : Vis f n) : ahead f n 0 = 0 := by
  unfold Vis at h
  unfold ahead pageN
  rw [if_pos (show (0 : Nat) < 120 by omega)]
  repeat' split
  all_goals omega
theorem ahead_end {f n : Int} (h : Vis f n) : ahead f n 280 = n := by
  unfold Vis at h
  unfold ahead pageN
  rw [if_neg (show ¬ (280 : Nat) < 120 by omega)]
  repeat' split
  all_goals omega
theorem ahead_rng {f n : Int} (h : Vis f n) (i : Nat) : 0 ≤ ahead f n i ∧ ahead f n i ≤ n := by
  unfold Vis at h
  unfold ahead
  repeat' split
  all_goals omega
theorem mc_step (L : List Rg) (f : Int) {k : Int} (h : 0 ≤ k) : mc L f (k + 1).toNat = mc L f k.toNat + if (atP L (f + k)).isSome = true then 1 else 0 := by
  rw [show (k + 1).toNat = k.toNat + 1 from by omega]
  show mc L f k.toNat + (if (atP L (f + (k.toNat : Int))).isSome = true then 1 else 0) = _
  rw [show f + (k.toNat : Int) = f + k from by omega]
/-- What holds behind i steps. -/
structure Stp (i : Nat) (l : List Rg) (h : Int) : Prop where
  good : SGood l h
  hh : h ≤ 119
  len : l.length ≤ 3 * i
  gap : ∀ p, 120 + 12 * (i : Int) < p → p < 524248 → atP l p = none
theorem stp_nil : Stp 0 [] 0 := ⟨sgood_iff.1 nil_good, by decide, by decide, fun p _ _ => rfl⟩
theorem Stp.on {i : Nat} {l : List Rg} {h : Int} (s : Stp i l h) : Stp (i + 1) l h := ⟨s.good, s.hh, by have := s.len; omega, fun p h1 h2 => s.gap p (by omega) h2⟩
theorem Stp.made {i : Nat} {l a : List Rg} {h f n : Int} {x : Option Int} (s : Stp i l h) (m : Made l a f (f + n) x) (ht : f + n ≤ 524288) (hl : a.length ≤ l.length + 3) (hg : 524248 ≤ f ∨ f + n ≤ 121 + 12 * ((i : Int) + 1)) : Stp (i + 1) a h :=
  ⟨s.good.low m ht, s.hh, by have := s.len; omega, fun p h1 h2 => by rw [m.at_, if_neg (by omega)]; exact s.gap p (by omega) h2⟩
theorem made_code {l a : List Rg} {f n : Int} {x : Option Int} (m : Made l a f (f + n) x) : chg (seenL l) f n (code x) = seenL a := chg_seen fun p => by
  rw [m.at_]
  split <;> rfl
theorem new_len1 {l : List Rg} (h : Vm.Good l) {f t : Int} (hft : f ≤ t) (ins : List Rg) (hi : ins.length ≤ 1) : (newL l f t ins).length ≤ l.length + 2 := by
  have := Vm.newL_length (ins := ins) h hft
  omega
/-- Low pages that may be asked. -/
structure Near (f n : Int) : Prop where
  nn : 1 ≤ n ∧ n ≤ 12
  ff : (1 ≤ f ∧ f + n ≤ 120) ∨ (524248 ≤ f ∧ f + n ≤ 524288)
theorem Near.vis {f n : Int} (h : Near f n) : Vis f n := by
  have := h.nn; have := h.ff
  unfold Vis; omega
theorem Near.low {f n : Int} (h : Near f n) : lowP f n := by
  have := h.nn; have := h.ff
  unfold lowP; omega
theorem reg_ok {f n q : Int} (h1 : 1 ≤ f) (h2 : 1 ≤ n) (h3 : f + n ≤ 1048576) (hq : q = 0 ∨ q = 1 ∨ q = 3) : (⟨f, n, q⟩ : Rg).Ok := ⟨h1, h2, h3, hq⟩
theorem prm_ok {q : Int} (hq : q = 0 ∨ q = 1 ∨ q = 3) : prm q = true := by unfold Vm.prm; exact decide_eq_true hq
theorem free_mc (L : List Rg) {f n : Int} (hn : 0 ≤ n) : (∀ p, f ≤ p → p < f + n → atP L p = none) ↔ mc L f n.toNat = 0 := by
  obtain ⟨k, rfl⟩ := Int.eq_ofNat_of_zero_le hn
  rw [Int.toNat_natCast, (Vm.mc_le L f k).2.2.2]
  exact ⟨fun hf i hi => hf _ (by omega) (by omega), fun hf p h3 h4 => by have := hf (p - f).toNat (by omega); rwa [show f + ((p - f).toNat : Int) = p from by omega] at this⟩
theorem full_mc (L : List Rg) {f n : Int} (hn : 0 ≤ n) : (∀ p, f ≤ p → p < f + n → (atP L p).isSome = true) ↔ mc L f n.toNat = n := by
  obtain ⟨k, rfl⟩ := Int.eq_ofNat_of_zero_le hn
  rw [Int.toNat_natCast, (Vm.mc_le L f k).2.2.1]
  exact ⟨fun hf i hi => hf _ (by omega) (by omega), fun hf p h3 h4 => by have := hf (p - f).toNat (by omega); rwa [show f + ((p - f).toNat : Int) = p from by omega] at this⟩
theorem mc_rng (L : List Rg) (f n : Int) (hn : 0 ≤ n) : 0 ≤ mc L f n.toNat ∧ mc L f n.toNat ≤ n := by
  have := Vm.mc_le L f n.toNat
  omega
/-- Put where nothing is. -/
theorem put_free {i : Nat} {l : List Rg} {h f n q : Int} (s : Stp i l h) (hi : i < 40) (h1 : 1 ≤ f) (h2 : 1 ≤ n) (h3 : f + n ≤ 1048576) (hq : q = 0 ∨ q = 1 ∨ q = 3) (hf : ∀ p, f ≤ p → p < f + n → atP l p = none) : ∃ a, Vm.putP l ⟨f, n, q⟩ = (a, 0) ∧ a.length ≤ l.length + 2 := by
  have hr := reg_ok h1 h2 h3 hq
  have e := (Vm.putP_eq s.good.fine hr).1 hf
  have hl := new_len1 (f := f) (t := f + n) s.good.fine.good (by omega) [⟨f, n, q⟩] (by simp)
  have hs := s.len
  exact ⟨_, e.trans (Vm.fewP_fine (by show (newL l f (f + n) [⟨f, n, q⟩]).length ≤ 1024; omega)), hl⟩
theorem step_map {i : Nat} {l : List Rg} {h f n q : Int} (s : Stp i l h) (hi : i < 40) (hn : Near f n) (hq : q = 0 ∨ q = 1 ∨ q = 3) :
    (mc l f n.toNat = 0 → ∃ a, mapF l h f n q = (a, h, f, 0) ∧ Stp (i + 1) a h ∧ chg (seenL l) f n (1 + q) = seenL a) ∧ (¬ mc l f n.toNat = 0 → mapF l h f n q = ([], 0, 0, 171)) := by
  have hz := sgood_iff.2 s.good
  have h1 := hn.nn; have h2 := hn.ff
  have e := mapF_3 (p := f) (n := n) (q := q) hz ⟨⟨by omega, by omega⟩, .inr hn.low, prm_ok hq⟩ (by omega)
  constructor
  · intro h0
    obtain ⟨a, ha, hl⟩ := put_free (f := f) (n := n) s hi (by omega) (by omega) (by omega) hq ((free_mc l (by omega)).2 h0)
    rw [ha] at e
    have m : Made l a f (f + n) (some q) := (Vm.put_made ha).1
    exact ⟨a, e, s.made m (by omega) (by omega) (by omega), made_code m⟩
  · intro h0
    have hr := reg_ok (f := f) (n := n) (q := q) (by omega) (by omega) (by omega) hq
    have e2 := (Vm.putP_eq s.good.fine hr).2 fun hf => h0 ((free_mc l (by omega)).1 hf)
    rw [e2] at e
    exact e
theorem step_gap {i : Nat} {l : List Rg} {h n q : Int} (s : Stp i l h) (hi : i < 40) (hn : 1 ≤ n ∧ n ≤ 12) (hq : q = 0 ∨ q = 1 ∨ q = 3) :
    ∃ a g, mapF l h 0 n q = (a, h, g, 0) ∧ Stp (i + 1) a h ∧ chg (seenL l) g n (1 + q) = seenL a ∧ 1 ≤ g ∧ g ≤ 524288 ∧ mc l g n.toNat = 0 ∧ ∀ p, 1 ≤ p → p < g → ¬ mc l p n.toNat = 0 := by
  have hz := sgood_iff.2 s.good
  obtain ⟨g1, g2, g3, g4⟩ := Vm.gap_from s.good.fine.good (n := n) (f := 1) (by omega)
  obtain ⟨g, hg⟩ : ∃ g, Vm.gapL n (l.drop (Vm.firstN l 1)) 1 = g := ⟨_, rfl⟩
  rw [hg] at g1 g2 g3 g4
  have hle : g ≤ 121 + 12 * (i : Int) := by
    rcases Int.lt_or_le (121 + 12 * (i : Int)) g with h1 | h1
    · exact absurd (fun p k1 k2 => s.gap p (by omega) (by omega)) (g4 (121 + 12 * (i : Int)) (by omega) h1)
    · exact h1
  have hX : Vm.gapP l n 1 524288 = (g, true, 0) := by
    unfold Vm.gapP
    rw [if_neg (by rw [Vm.fine_iff.2 s.good.fine]; omega), if_neg (by omega), hg, if_neg (by omega)]
  have e := mapF_5 (l := l) (h := h) (q := q) hz ⟨⟨by omega, by omega⟩, prm_ok hq⟩ hX ⟨rfl, rfl⟩
  have hfree : ∀ p, g ≤ p → p < g + n → atP l p = none := g2
  obtain ⟨a, ha, hl⟩ := put_free (f := g) (n := n) s hi g1 (by omega) (by omega) hq hfree
  rw [ha] at e
  have m : Made l a g (g + n) (some q) := (Vm.put_made ha).1
  exact ⟨a, g, e, s.made m (by omega) (by omega) (by omega), made_code m, g1, by omega, (free_mc l (by omega)).1 hfree, fun p k1 k2 h0 => g4 p k1 k2 ((free_mc l (by omega)).2 h0)⟩
theorem step_unmap {i : Nat} {l : List Rg} {h f n : Int} (s : Stp i l h) (hi : i < 40) (hn : Near f n) : ∃ a, unmapF l h f n = (a, h, 0) ∧ Stp (i + 1) a h ∧ chg (seenL l) f n 0 = seenL a := by
  have hz := sgood_iff.2 s.good
  have h1 := hn.nn; have h2 := hn.ff
  have hl := new_len1 (f := f) (t := f + n) s.good.fine.good (by omega) [] (by simp)
  have hs := s.len
  have e : Vm.cutP l f n = (newL l f (f + n) [], 0) := (Vm.cutP_eq s.good.fine (by omega) (by omega) (by omega)).trans (Vm.fewP_fine (by omega))
  have m := Vm.cut_made e
  have hlow := hn.low
  refine ⟨_, ?_, s.made m (by omega) (by omega) (by omega), made_code m⟩
  unfold unmapF
  rw [if_neg (by omega), if_neg (fun h => h hlow), e]
  rfl
theorem step_protect {i : Nat} {l : List Rg} {h f n q : Int} (s : Stp i l h) (hi : i < 40) (hn : Near f n) (hq : q = 0 ∨ q = 1 ∨ q = 3) :
    (mc l f n.toNat = n → ∃ a, protectF l h f n q = (a, h, 0) ∧ Stp (i + 1) a h ∧ chg (seenL l) f n (1 + q) = seenL a) ∧ (¬ mc l f n.toNat = n → protectF l h f n q = ([], 0, 170)) := by
  have hz := sgood_iff.2 s.good
  have h1 := hn.nn; have h2 := hn.ff
  have hlow := hn.low
  have hr := reg_ok (f := f) (n := n) (q := q) (by omega) (by omega) (by omega) hq
  have e : protectF l h f n q = madeF (Vm.protP l f n q) h := by
    unfold protectF
    rw [if_neg (by omega), if_neg (fun h => h ⟨hlow, prm_ok hq⟩)]
  constructor
  · intro h0
    have e2 := (Vm.protP_eq s.good.fine hr).1 ((full_mc l (by omega)).2 h0)
    have hl := new_len1 (f := f) (t := f + n) s.good.fine.good (by omega) [⟨f, n, q⟩] (by simp)
    have hs := s.len
    have e3 := e2.trans (Vm.fewP_fine (by omega))
    have m := (Vm.prot_made e3).1
    rw [e3] at e
    exact ⟨_, e, s.made m (by omega) (by show (newL l f (f + n) [⟨f, n, q⟩]).length ≤ l.length + 3; omega) (by omega), made_code m⟩
  · intro h0
    have e2 := (Vm.protP_eq s.good.fine hr).2 fun hf => h0 ((full_mc l (by omega)).1 hf)
    rw [e2] at e
    exact e
theorem step_brk {i : Nat} {l : List Rg} {h n : Int} (s : Stp i l h) (hi : i < 40) (hn : 0 ≤ n ∧ n < 120) :
    (n ≤ h + 64 ∧ h - 64 ≤ n → ∃ a, brkF l h n = (a, n, 0) ∧ Stp (i + 1) a n ∧ chg (chg (seenL l) 524288 200 0) 524288 n 4 = seenL a) ∧ (¬ (n ≤ h + 64 ∧ h - 64 ≤ n) → brkF l h n = ([], 0, 2)) := by
  constructor
  · intro hr
    obtain ⟨c, hc, m⟩ := cut_heap s.good
    have hcl : c.length ≤ l.length + 1 := by
      have e := Vm.cutP_eq s.good.fine (p := 524288) (n := 1024) (by omega) (by omega) (by omega)
      have e2 : c = newL l 524288 525312 [] := (Vm.fewP_0 (e.symm.trans hc)).1
      have := Vm.newL_length (ins := []) s.good.fine.good (f := 524288) (t := 525312) (by omega)
      rw [e2]; simpa using this
    have hs := s.len
    have key : ∃ a, brkF l h n = (a, n, 0) ∧ a.length ≤ l.length + 3 := by
      rw [brk_doc s.good ⟨by omega, hr⟩]
      unfold brkQ
      rw [hc]
      by_cases hp : n > 0
      · rw [if_pos hp]
        have hro := reg_ok (f := 524288) (n := n) (q := 3) (by omega) (by omega) (by omega) (.inr (.inr rfl))
        have e := (Vm.putP_eq m.fine hro).1 fun p h1 h2 => by
          have h1 : 524288 ≤ p := h1
          have h2 : p < 524288 + n := h2
          rw [m.at_, if_pos (by omega)]
        have hl2 := Vm.newL_length (ins := [(⟨524288, n, 3⟩ : Rg)]) m.fine.good (f := 524288) (t := 524288 + n) (by omega)
        rw [List.length_singleton] at hl2
        have e2 : Vm.putP c ⟨524288, n, 3⟩ = (newL c 524288 (524288 + n) [⟨524288, n, 3⟩], 0) := e.trans (Vm.fewP_fine (by show (newL c 524288 (524288 + n) [⟨524288, n, 3⟩]).length ≤ 1024; omega))
        exact ⟨_, by show madeF (Vm.putP c ⟨524288, n, 3⟩) n = _; rw [e2]; rfl, by show (newL c 524288 (524288 + n) [⟨524288, n, 3⟩]).length ≤ l.length + 3; omega⟩
      · rw [if_neg hp]
        exact ⟨c, rfl, by omega⟩
    obtain ⟨a, ha, hal⟩ := key
    obtain ⟨_, hg, _, hlow⟩ := brk_made s.good ha
    refine ⟨a, ha, ⟨hg, by omega, by omega, fun p h1 h2 => by rw [hlow p (by omega)]; exact s.gap p (by omega) h2⟩, ?_⟩
    refine eq_280 (chg_length ..) (seenL_length _) fun j hj => ?_
    rw [chg_get _ _ _ _ hj, chg_get _ _ _ _ hj, seenL_get _ hj, seenL_get _ hj]
    have hpj : pageN j < 524408 := by unfold pageN; split <;> omega
    by_cases h1 : 524288 ≤ pageN j
    · rw [hg.at_ _ h1]
      by_cases h2 : pageN j < 524288 + n
      · rw [if_pos ⟨h1, h2⟩, if_pos h2]; rfl
      · rw [if_neg (by omega), if_pos (by omega), if_neg h2]; rfl
    · rw [if_neg (by omega), if_neg (by omega), hlow _ (by omega)]
  · intro hr
    exact brkF_2 s.good (by omega)
end Go.Proofs.Ytalkcemelegohaa
