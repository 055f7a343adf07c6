/- What was filled or found last, in plain lists. -/
import Derived.Test.YtocilbkjbikeeaaPa
set_option linter.unusedVariables false
namespace Go.Proofs.Ytocilbkjbikeeaa
open Go.RowKit Go.Cof

structure Kp where
  x : Tr
  g : Bool
  deriving Inhabited
def keyK (a p : Int) (k : Kp) : Bool := kB a p k.x
def rmK (a p : Int) (R : List Kp) : List Kp := R.filter fun k => !keyK a p k
def goneK (a p : Int) (k : Kp) : Kp := if keyK a p k then { k with g := true } else k
/-- Those that are not dropped. -/
def liveK (R : List Kp) : List Tr := (R.filter fun k => !k.g).map Kp.x
def UniqK (R : List Kp) : Prop := R.Pairwise fun x y => ¬ alike x.x y.x
theorem liveK_prefix {R S : List Kp} (h : R <+: S) : liveK R <+: liveK S := (h.filter _).map _
theorem rm_prefix {a p : Int} {l m : List Tr} (h : l <+: m) : rm a p l <+: rm a p m := h.filter _
theorem rmK_prefix {a p : Int} {l m : List Kp} (h : l <+: m) : rmK a p l <+: rmK a p m := h.filter _
theorem liveK_cons_t {k : Kp} {R : List Kp} (h : k.g = true) : liveK (k :: R) = liveK R := by
  unfold liveK; rw [List.filter_cons_of_neg (by rw [h]; decide)]
theorem liveK_cons_f {k : Kp} {R : List Kp} (h : k.g = false) : liveK (k :: R) = k.x :: liveK R := by
  unfold liveK; rw [List.filter_cons_of_pos (by rw [h]; decide)]; rfl
theorem rmK_cons_t {a p : Int} {k : Kp} {R : List Kp} (h : kB a p k.x = true) : rmK a p (k :: R) = rmK a p R := by
  unfold rmK keyK; rw [List.filter_cons_of_neg (by rw [h]; decide)]
theorem rmK_cons_f {a p : Int} {k : Kp} {R : List Kp} (h : kB a p k.x = false) : rmK a p (k :: R) = k :: rmK a p R := by
  unfold rmK keyK; rw [List.filter_cons_of_pos (by rw [h]; decide)]
theorem rm_cons_t {a p : Int} {x : Tr} {l : List Tr} (h : kB a p x = true) : rm a p (x :: l) = rm a p l := by
  unfold rm; rw [List.filter_cons_of_neg (by rw [h]; decide)]
theorem rm_cons_f {a p : Int} {x : Tr} {l : List Tr} (h : kB a p x = false) : rm a p (x :: l) = x :: rm a p l := by
  unfold rm; rw [List.filter_cons_of_pos (by rw [h]; decide)]
theorem liveK_rm (a p : Int) : ∀ R : List Kp, liveK (rmK a p R) = rm a p (liveK R)
  | [] => rfl
  | k :: R => by
    have ih := liveK_rm a p R
    cases hg : k.g <;> cases hk : kB a p k.x
    · rw [rmK_cons_f hk, liveK_cons_f hg, liveK_cons_f hg, rm_cons_f hk, ih]
    · rw [rmK_cons_t hk, liveK_cons_f hg, rm_cons_t hk, ih]
    · rw [rmK_cons_f hk, liveK_cons_t hg, liveK_cons_t hg, ih]
    · rw [rmK_cons_t hk, liveK_cons_t hg, ih]
theorem liveK_gone (a p : Int) : ∀ R : List Kp, liveK (R.map (goneK a p)) = rm a p (liveK R)
  | [] => rfl
  | k :: R => by
    have ih := liveK_gone a p R
    cases hk : kB a p k.x with
    | true =>
      have e : goneK a p k = { k with g := true } := by unfold goneK keyK; rw [if_pos hk]
      rw [List.map_cons, e, liveK_cons_t rfl, ih]
      cases hg : k.g with
      | true => rw [liveK_cons_t hg]
      | false => rw [liveK_cons_f hg, rm_cons_t hk]
    | false =>
      have e : goneK a p k = k := by unfold goneK keyK; rw [hk]; rfl
      rw [List.map_cons, e]
      cases hg : k.g with
      | true => rw [liveK_cons_t hg, liveK_cons_t hg, ih]
      | false => rw [liveK_cons_f hg, liveK_cons_f hg, rm_cons_f hk, ih]
theorem rmK_none {a p : Int} {R : List Kp} (h : ∀ k ∈ R, keyK a p k = false) : rmK a p R = R := List.filter_eq_self.2 fun k hk => by rw [h k hk]; rfl
/-- At most one is of a key. -/
theorem rmK_len {a p : Int} : ∀ {R : List Kp}, UniqK R → R.length ≤ (rmK a p R).length + 1
  | [], _ => by simp
  | k :: R, h => by
    have h2 := List.pairwise_cons.1 h
    cases hk : keyK a p k with
    | true =>
      have h3 : rmK a p (k :: R) = R := by
        unfold rmK
        rw [List.filter_cons_of_neg (by rw [hk]; decide)]
        exact rmK_none fun y hy => by
          cases hy2 : keyK a p y with
          | false => rfl
          | true => exact absurd (kB_alike hk hy2) (h2.1 y hy)
      rw [h3]
      simp
    | false =>
      have ih := rmK_len (a := a) (p := p) h2.2
      have h3 : rmK a p (k :: R) = k :: rmK a p R := by
        unfold rmK
        rw [List.filter_cons_of_pos (by rw [hk]; decide)]
      rw [h3, List.length_cons, List.length_cons]
      omega
theorem take_rmK {a p : Int} {R : List Kp} (h : UniqK R) (n : Nat) : (rmK a p R).take n <+: rmK a p (R.take (n + 1)) := by
  have h1 : rmK a p (R.take (n + 1)) <+: rmK a p R := rmK_prefix (List.take_prefix _ _)
  have h2 : (rmK a p R).take n <+: rmK a p R := List.take_prefix _ _
  by_cases hl : n + 1 ≤ R.length
  · have h3 := rmK_len (a := a) (p := p) (R := R.take (n + 1)) (List.Pairwise.sublist (List.take_sublist _ _) h)
    rw [List.length_take, Nat.min_eq_left hl] at h3
    exact List.prefix_of_prefix_length_le h2 h1 (by rw [List.length_take]; omega)
  · rw [List.take_of_length_le (l := R) (show R.length ≤ n + 1 by omega)]
    exact h2
/-- The row, and what was filled or found, the latest first. -/
structure Stay (n : Int) (ys : List Tr) (R : List Kp) : Prop where
  uniq : UniqK R
  ask : ∀ k ∈ R, askE k.x.a k.x.p = 0
  sub : ys <+: liveK R
  top : liveK (R.take n.toNat) <+: ys
theorem UniqK.cons_rm {R : List Kp} (h : UniqK R) (x : Tr) (g : Bool) : UniqK (⟨x, g⟩ :: rmK x.a x.p R) := by
  refine List.pairwise_cons.2 ⟨fun y hy hxy => ?_, List.Pairwise.filter _ h⟩
  have h1 := (List.mem_filter.1 hy).2
  rw [show keyK x.a x.p y = true from kB_iff.2 ⟨hxy.1.symm, hxy.2.symm⟩] at h1
  cases h1
theorem UniqK.gone {R : List Kp} (h : UniqK R) (a p : Int) : UniqK (R.map (goneK a p)) := by
  unfold UniqK
  rw [List.pairwise_map]
  refine List.Pairwise.imp (fun {x y} h1 h2 => h1 ?_) h
  have e : ∀ k : Kp, (goneK a p k).x = k.x := fun k => by unfold goneK; split <;> rfl
  rw [e, e] at h2
  exact h2
theorem liveK_cons {x : Tr} {R : List Kp} : liveK (⟨x, false⟩ :: R) = x :: liveK R := rfl
theorem Stay.fill {n : Int} {ys : List Tr} {R : List Kp} (h : Stay n ys R) (hn : 1 ≤ n) (x : Tr) (ha : askE x.a x.p = 0) {zs : List Tr} (hz : zs = x :: (rm x.a x.p ys).take (n - 1).toNat) : Stay n zs (⟨x, false⟩ :: rmK x.a x.p R) := by
  subst hz
  refine ⟨h.uniq.cons_rm x false, fun k hk => ?_, ?_, ?_⟩
  · rcases List.mem_cons.1 hk with rfl | hk
    · exact ha
    · exact h.ask k (List.mem_filter.1 hk).1
  · rw [liveK_cons, liveK_rm, List.cons_prefix_cons]
    exact ⟨rfl, (List.take_prefix _ _).trans (rm_prefix h.sub)⟩
  · obtain ⟨k, hk⟩ : ∃ k, n.toNat = k + 1 := ⟨n.toNat - 1, by omega⟩
    have e : (n - 1).toNat = k := by omega
    rw [hk, e, List.take_succ_cons, liveK_cons, List.cons_prefix_cons]
    refine ⟨rfl, ?_⟩
    have h1 : liveK ((rmK x.a x.p R).take k) <+: rm x.a x.p ys := by
      have h2 := liveK_prefix (take_rmK (a := x.a) (p := x.p) h.uniq k)
      rw [liveK_rm] at h2
      refine h2.trans (rm_prefix ?_)
      have h3 := h.top
      rwa [hk] at h3
    have hl : (liveK ((rmK x.a x.p R).take k)).length ≤ k := by
      unfold liveK
      rw [List.length_map]
      exact Nat.le_trans (List.length_filter_le _ _) (List.length_take_le _ _)
    exact List.prefix_take_iff.2 ⟨h1, hl⟩
theorem Stay.find {n : Int} {ys : List Tr} {R : List Kp} (h : Stay n ys R) (hn : 1 ≤ n) (hl : (ys.length : Int) ≤ n) (x : Tr) (ha : askE x.a x.p = 0) (hx : (rm x.a x.p ys).length < ys.length) : Stay n (x :: rm x.a x.p ys) (⟨x, false⟩ :: rmK x.a x.p R) :=
  h.fill hn x ha (by rw [List.take_of_length_le (by omega)])
theorem Stay.drop {n : Int} {ys : List Tr} {R : List Kp} (h : Stay n ys R) (a p : Int) : Stay n (rm a p ys) (R.map (goneK a p)) := by
  refine ⟨h.uniq.gone a p, fun k hk => ?_, ?_, ?_⟩
  · obtain ⟨k2, hk2, rfl⟩ := List.mem_map.1 hk
    have e : (goneK a p k2).x = k2.x := by unfold goneK; split <;> rfl
    rw [e]
    exact h.ask k2 hk2
  · rw [liveK_gone]
    exact rm_prefix h.sub
  · rw [← List.map_take, liveK_gone]
    exact rm_prefix h.top
theorem mem_liveK {R : List Kp} {x : Tr} : x ∈ liveK R ↔ ∃ k ∈ R, k.g = false ∧ k.x = x := by
  unfold liveK
  rw [List.mem_map]
  constructor
  · rintro ⟨k, hk, rfl⟩
    rw [List.mem_filter] at hk
    exact ⟨k, hk.1, by simpa using hk.2, rfl⟩
  · rintro ⟨k, hk, hg, rfl⟩
    exact ⟨k, List.mem_filter.2 ⟨hk, by simp [hg]⟩, rfl⟩
theorem UniqK.eq : ∀ {R : List Kp} {k k' : Kp}, UniqK R → k ∈ R → k' ∈ R → alike k.x k'.x → k = k'
  | [], _, _, _, h, _, _ => by cases h
  | y :: R, k, k', hu, h, h', ha => by
    have h2 := List.pairwise_cons.1 hu
    rcases List.mem_cons.1 h with e | h3
    · rcases List.mem_cons.1 h' with e' | h4
      · rw [e, e']
      · rw [e] at ha
        exact absurd ha (h2.1 k' h4)
    · rcases List.mem_cons.1 h' with e' | h4
      · rw [e'] at ha
        exact absurd ⟨ha.1.symm, ha.2.symm⟩ (h2.1 k h3)
      · exact UniqK.eq (R := R) h2.2 h3 h4 ha
theorem Stay.hit {n : Int} {ys : List Tr} {R : List Kp} (h : Stay n ys R) {k : Kp} (hk : k ∈ R) {y : Tr} (hf : ys.find? (kB k.x.a k.x.p) = some y) : k.g = false ∧ y = k.x := by
  have hm := find_mem hf
  obtain ⟨k', hk', hg, rfl⟩ := mem_liveK.1 (h.sub.subset hm.1)
  have hkk := kB_iff.1 hm.2
  have e : k' = k := h.uniq.eq hk' hk ⟨hkk.1, hkk.2⟩
  subst e
  exact ⟨hg, rfl⟩
theorem Stay.miss {n : Int} {ys : List Tr} {R : List Kp} (h : Stay n ys R) {k : Kp} (hk : k ∈ R.take n.toNat) (hf : ys.find? (kB k.x.a k.x.p) = none) : k.g = true := by
  cases hg : k.g with
  | true => rfl
  | false =>
    have hm : k.x ∈ ys := h.top.subset (mem_liveK.2 ⟨k, hk, hg, rfl⟩)
    have := find_none_iff.1 hf _ hm
    rw [kB_self] at this
    cases this
theorem Stay.nil (n : Int) : Stay n [] [] := ⟨List.Pairwise.nil, (fun k hk => by cases hk), List.prefix_refl _, by rw [List.take_nil]; exact List.prefix_refl _⟩
end Go.Proofs.Ytocilbkjbikeeaa
