/- The law VmaPages, walked. -/
import Derived.Test.YtpkffgbcebjhaaaLk
import Derived.Test.YtpkffgbcebjhaaaLc
set_option linter.unusedVariables false
namespace Go.Proofs.Ytpkffgbcebjhaaa
open Go.RowKit Go.Cof

structure Ak where
  p : Int
  n : Int
  m : Int
  a : Int
  deriving Inhabited
def encAk : Enc Ak := ⟨fun x => [.int .i64 x.p, .int .i64 x.n, .int .u8 x.m, .int .i64 x.a], 4, fun _ => rfl, by decide, fun x u hu => by simp at hu; rcases hu with rfl | rfl | rfl | rfl <;> rfl⟩
structure Ak.In (x : Ak) : Prop where
  p : -9223372036854775808 ≤ x.p ∧ x.p ≤ 9223372036854775807
  n : -9223372036854775808 ≤ x.n ∧ x.n ≤ 9223372036854775807
  m : 0 ≤ x.m ∧ x.m < 256
  a : -9223372036854775808 ≤ x.a ∧ x.a ≤ 9223372036854775807
theorem code_pos {l : List Rg} (h : Low l) (p : Int) : 0 ≤ code (atP l p) ∧ code (atP l p) ≤ 4 ∧ (code (atP l p) = 0 ↔ atP l p = none) := by
  cases hx : atP l p with
  | none => exact ⟨by decide, by decide, by simp [code]⟩
  | some m =>
    obtain ⟨r, hr, _, _, rfl⟩ := atP_mem hx
    have := (h.good.ok r hr).m
    refine ⟨by show 0 ≤ 1 + r.m; omega, by show 1 + r.m ≤ 4; omega, ?_⟩
    have e : code (some r.m) = 1 + r.m := rfl
    rw [e]
    constructor
    · intro h; omega
    · intro h; cases h
/-- What one step comes to: what is answered, what is wanted, what the pages hold. -/
structure Sw (L : List Rg) (page n mapped : Int) (xs : List Rg) (e want put : Int) : Prop where
  same : e = want
  rng : 0 ≤ put ∧ put ≤ 4
  ok : e = 0 → Low xs ∧ ∀ p, code (atP xs p) = if page ≤ p ∧ p < page + n then put else code (atP L p)
theorem few_low {a : List Rg} (h : Low a) : fewP a = (a, 0) := fewP_fine h.fine.len
theorem sw_put {L : List Rg} (h : Low L) {page m : Int} {k : Nat} (h1 : 1 ≤ page) (hk : 1 ≤ k) (h2 : page + k ≤ 60) (hm : m = 0 ∨ m = 1 ∨ m = 3) : Sw L page k (mc L page k) (putP L ⟨page, k, m⟩).1 (putP L ⟨page, k, m⟩).2 (if 0 < mc L page k then 171 else 0) (1 + m) := by
  have hr : (⟨page, k, m⟩ : Rg).Ok := ⟨h1, by show 1 ≤ (k : Int); omega, by show page + (k : Int) ≤ _; omega, hm⟩
  obtain ⟨q1, q2⟩ := putP_eq h.fine hr
  have hmc := mc_le L page k
  have hfr : (∀ p, page ≤ p → p < page + (k : Int) → atP L p = none) ↔ mc L page k = 0 := by
    rw [hmc.2.2.2]
    exact ⟨fun hf i hi => hf _ (by omega) (by omega), fun hf p h3 h4 => by have := hf (p - page).toNat (by omega); rwa [show page + ((p - page).toNat : Int) = p from by omega] at this⟩
  by_cases h0 : mc L page k = 0
  · have hf := hfr.2 h0
    obtain ⟨g1, g2⟩ := new_put h.good hr
    have g2 : ∀ p, atP (newL L page (page + k) [⟨page, k, m⟩]) p = if page ≤ p ∧ p < page + (k : Int) then some m else atP L p := g2
    have hlow : Low (newL L page (page + k) [⟨page, k, m⟩]) := Low.of_at g1 fun p hp => by
      rw [g2, if_neg (by omega)]; exact h.at_ hp
    have e : putP L ⟨page, k, m⟩ = (newL L page (page + k) [⟨page, k, m⟩], 0) := (q1 hf).trans (few_low hlow)
    rw [e, if_neg (by omega)]
    refine ⟨rfl, by omega, fun _ => ⟨hlow, fun p => ?_⟩⟩
    show code (atP (newL L page (page + k) [⟨page, k, m⟩]) p) = _
    rw [g2]
    by_cases hc : page ≤ p ∧ p < page + (k : Int)
    · rw [if_pos hc, if_pos hc]; rfl
    · rw [if_neg hc, if_neg hc]
  · have e := q2 fun hf => h0 (hfr.1 hf)
    rw [e, if_pos (by omega)]
    exact ⟨rfl, by omega, fun h => by cases h⟩
theorem sw_cut {L : List Rg} (h : Low L) {page : Int} {k : Nat} (h1 : 1 ≤ page) (hk : 1 ≤ k) (h2 : page + k ≤ 60) : Sw L page k (mc L page k) (cutP L page k).1 (cutP L page k).2 0 0 := by
  obtain ⟨g1, g2⟩ := new_cut h.good h1 (t := page + k) (by omega) (by omega)
  have hlow : Low (newL L page (page + k) []) := Low.of_at g1 fun p hp => by rw [g2, if_neg (by omega)]; exact h.at_ hp
  have e : cutP L page k = (newL L page (page + k) [], 0) := (cutP_eq h.fine h1 (by omega) (by omega)).trans (few_low hlow)
  rw [e]
  refine ⟨rfl, by omega, fun _ => ⟨hlow, fun p => ?_⟩⟩
  show code (atP (newL L page (page + k) []) p) = _
  rw [g2]
  by_cases hc : page ≤ p ∧ p < page + (k : Int)
  · rw [if_pos hc, if_pos hc]; rfl
  · rw [if_neg hc, if_neg hc]
theorem sw_prot {L : List Rg} (h : Low L) {page m : Int} {k : Nat} (h1 : 1 ≤ page) (hk : 1 ≤ k) (h2 : page + k ≤ 60) (hm : m = 0 ∨ m = 1 ∨ m = 3) : Sw L page k (mc L page k) (protP L page k m).1 (protP L page k m).2 (if mc L page k < k then 170 else 0) (1 + m) := by
  have hr : (⟨page, k, m⟩ : Rg).Ok := ⟨h1, by show 1 ≤ (k : Int); omega, by show page + (k : Int) ≤ _; omega, hm⟩
  obtain ⟨q1, q2⟩ := protP_eq h.fine hr
  have hmc := mc_le L page k
  have hfr : (∀ x, page ≤ x → x < page + (k : Int) → (atP L x).isSome = true) ↔ mc L page k = k := by
    rw [hmc.2.2.1]
    exact ⟨fun hf i hi => hf _ (by omega) (by omega), fun hf p h3 h4 => by have := hf (p - page).toNat (by omega); rwa [show page + ((p - page).toNat : Int) = p from by omega] at this⟩
  by_cases h0 : mc L page k = k
  · have hf := hfr.2 h0
    obtain ⟨g1, g2⟩ := new_put h.good hr
    have g2 : ∀ p, atP (newL L page (page + k) [⟨page, k, m⟩]) p = if page ≤ p ∧ p < page + (k : Int) then some m else atP L p := g2
    have hlow : Low (newL L page (page + k) [⟨page, k, m⟩]) := Low.of_at g1 fun p hp => by
      rw [g2, if_neg (by omega)]; exact h.at_ hp
    have e : protP L page k m = (newL L page (page + k) [⟨page, k, m⟩], 0) := (q1 hf).trans (few_low hlow)
    rw [e, if_neg (by omega)]
    refine ⟨rfl, by omega, fun _ => ⟨hlow, fun p => ?_⟩⟩
    show code (atP (newL L page (page + k) [⟨page, k, m⟩]) p) = _
    rw [g2]
    by_cases hc : page ≤ p ∧ p < page + (k : Int)
    · rw [if_pos hc, if_pos hc]; rfl
    · rw [if_neg hc, if_neg hc]
  · have e := q2 fun hf => h0 (hfr.1 hf)
    rw [e, if_pos (by omega)]
    exact ⟨rfl, by omega, fun h => by cases h⟩
theorem low_pages {L : List Rg} (h : Low L) : pagesP L = (mc L 0 60, 0) := by
  have hc := fine_iff.2 h.fine
  rw [pagesP_2 (by omega)]
  have e : betw L 0 (0 + (60 : Nat)) = L := betw_whole h.good.ok fun r hr => ⟨by have := (h.good.ok r hr).p; omega, by have := h.top r hr; omega⟩
  have := cnt_mc h.good 0 60
  rw [e] at this
  rw [← this]
  rfl
theorem seenL_nil : seenL [] = List.replicate 60 0 := by decide
theorem eqI60 : EqI Try.prog 50 .u8 60 := EqI.of (el := 5) tt_ok rfl rfl rfl rfl rfl (by kernel_rfl)
end Go.Proofs.Ytpkffgbcebjhaaa
