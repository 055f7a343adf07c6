/- Rows of translations, in plain lists: the youngest first. -/
import Derived.Test.YthmllhihldbfoaaTlWc
set_option linter.unusedVariables false
namespace Go.Proofs.Ythmllhihldbfoaa.Tl
open Go.RowKit Go.Cof

def alike (x y : Tr) : Prop := x.a = y.a ∧ x.p = y.p
/-- None twice. -/
def Uniq (l : List Tr) : Prop := l.Pairwise fun x y => ¬ alike x y
def rm (a p : Int) (l : List Tr) : List Tr := l.filter fun x => !kB a p x
theorem Uniq.reverse {l : List Tr} (h : Uniq l) : Uniq l.reverse := by
  unfold Uniq
  rw [List.pairwise_reverse]
  exact List.Pairwise.imp (fun h1 h2 => h1 ⟨h2.1.symm, h2.2.symm⟩) h
theorem Uniq.filter {l : List Tr} (h : Uniq l) (q : Tr → Bool) : Uniq (l.filter q) := List.Pairwise.filter q h
theorem Uniq.sub {l l' : List Tr} (h : Uniq l) (hs : l'.Sublist l) : Uniq l' := List.Pairwise.sublist hs h
theorem kB_alike {a p : Int} {x y : Tr} (hx : kB a p x = true) (hy : kB a p y = true) : alike x y := by
  rw [kB_iff] at hx hy
  exact ⟨hx.1.trans hy.1.symm, hx.2.trans hy.2.symm⟩
theorem kB_self (x : Tr) : kB x.a x.p x = true := kB_iff.2 ⟨rfl, rfl⟩
theorem erase_rm {a p : Int} : ∀ {l : List Tr}, Uniq l → firstQ (kB a p) l < l.length → l.eraseIdx (firstQ (kB a p) l) = rm a p l
  | [], _, h => by simp [firstQ] at h
  | x :: l, hu, h => by
    have hu2 := List.pairwise_cons.1 hu
    cases hk : kB a p x with
    | true =>
      rw [firstQ_cons_t hk, List.eraseIdx_cons_zero]
      unfold rm
      rw [List.filter_cons_of_neg (by rw [hk]; decide)]
      refine (List.filter_eq_self.2 fun y hy => ?_).symm
      cases hy2 : kB a p y with
      | false => rfl
      | true => exact absurd (kB_alike hk hy2) (hu2.1 y hy)
    | false =>
      rw [firstQ_cons_f hk, List.length_cons] at h
      rw [firstQ_cons_f hk, List.eraseIdx_cons_succ, erase_rm hu2.2 (by omega)]
      unfold rm
      rw [List.filter_cons_of_pos (by rw [hk]; decide)]
theorem rm_none {a p : Int} {l : List Tr} (h : ¬ firstQ (kB a p) l < l.length) : rm a p l = l := filter_none h
theorem rm_reverse (a p : Int) (l : List Tr) : rm a p l.reverse = (rm a p l).reverse := by unfold rm; rw [List.filter_reverse]
theorem rm_sub (a p : Int) (l : List Tr) : (rm a p l).Sublist l := List.filter_sublist
theorem rm_len (a p : Int) (l : List Tr) : (rm a p l).length ≤ l.length := (rm_sub a p l).length_le
theorem mem_rm {a p : Int} {l : List Tr} {x : Tr} : x ∈ rm a p l ↔ x ∈ l ∧ kB a p x = false := by
  unfold rm
  rw [List.mem_filter]
  cases kB a p x <;> simp
theorem Uniq.cons_rm {l : List Tr} (h : Uniq l) (x : Tr) : Uniq (x :: rm x.a x.p l) := by
  refine List.pairwise_cons.2 ⟨fun y hy hxy => ?_, h.filter _⟩
  have := (mem_rm.1 hy).2
  rw [show kB x.a x.p y = true from kB_iff.2 ⟨hxy.1.symm, hxy.2.symm⟩] at this
  cases this
theorem find_mem {a p : Int} {l : List Tr} {x : Tr} (h : l.find? (kB a p) = some x) : x ∈ l ∧ kB a p x = true := ⟨List.mem_of_find?_eq_some h, List.find?_some h⟩
theorem find_of_mem {a p : Int} : ∀ {l : List Tr} {x : Tr}, Uniq l → x ∈ l → kB a p x = true → l.find? (kB a p) = some x
  | [], x, _, h, _ => by cases h
  | y :: l, x, hu, h, hk => by
    have hu2 := List.pairwise_cons.1 hu
    cases hy : kB a p y with
    | true =>
      rw [List.find?_cons_of_pos hy]
      rcases List.mem_cons.1 h with rfl | h2
      · rfl
      · exact absurd (kB_alike hy hk) (hu2.1 x h2)
    | false =>
      rw [List.find?_cons_of_neg (by rw [hy]; decide)]
      rcases List.mem_cons.1 h with rfl | h2
      · rw [hk] at hy; cases hy
      · exact find_of_mem hu2.2 h2 hk
theorem find_none_iff {a p : Int} {l : List Tr} : l.find? (kB a p) = none ↔ ∀ x ∈ l, kB a p x = false := by
  rw [List.find?_eq_none]
  exact ⟨fun h x hx => by have := h x hx; cases hk : kB a p x with | false => rfl | true => exact absurd hk this, fun h x hx => by rw [h x hx]; decide⟩
theorem find_reverse {a p : Int} {l : List Tr} (hu : Uniq l) : l.reverse.find? (kB a p) = l.find? (kB a p) := by
  cases h : l.find? (kB a p) with
  | none => rw [find_none_iff] at h ⊢; exact fun x hx => h x (List.mem_reverse.1 hx)
  | some x => exact find_of_mem hu.reverse (List.mem_reverse.2 (find_mem h).1) (find_mem h).2
theorem find_iff {a p : Int} {l : List Tr} (hu : Uniq l) {x : Tr} : l.find? (kB a p) = some x ↔ x ∈ l ∧ kB a p x = true := ⟨find_mem, fun h => find_of_mem hu h.1 h.2⟩
def markX (a p : Int) (y : Tr) : Tr := if kB a p y then { y with d := true } else y
theorem markX_key (a p : Int) (y : Tr) : (markX a p y).a = y.a ∧ (markX a p y).p = y.p := by unfold markX; split <;> exact ⟨rfl, rfl⟩
theorem map_mark_none {a p : Int} {l : List Tr} (h : ∀ x ∈ l, kB a p x = false) : l.map (markX a p) = l :=
  (List.map_congr_left (g := id) fun y hy => by unfold markX; rw [h y hy]; rfl).trans (List.map_id l)
theorem set_mark {a p : Int} : ∀ {l : List Tr}, Uniq l → firstQ (kB a p) l < l.length → l.set (firstQ (kB a p) l) { l.getD (firstQ (kB a p) l) default with d := true } = l.map (markX a p)
  | [], _, h => by simp [firstQ] at h
  | x :: l, hu, h => by
    have hu2 := List.pairwise_cons.1 hu
    cases hk : kB a p x with
    | true =>
      rw [firstQ_cons_t hk]
      show ({ x with d := true } : Tr) :: l = markX a p x :: l.map (markX a p)
      have e1 : markX a p x = { x with d := true } := by unfold markX; rw [hk]; rfl
      rw [e1, map_mark_none fun y hy => by
        cases hy2 : kB a p y with
        | false => rfl
        | true => exact absurd (kB_alike hk hy2) (hu2.1 y hy)]
    | false =>
      rw [firstQ_cons_f hk, List.length_cons] at h
      rw [firstQ_cons_f hk]
      show x :: l.set (firstQ (kB a p) l) { l.getD (firstQ (kB a p) l) default with d := true } = markX a p x :: l.map (markX a p)
      have e1 : markX a p x = x := by unfold markX; rw [hk]; rfl
      rw [e1, set_mark hu2.2 (by omega)]
theorem Uniq.map_mark {l : List Tr} (h : Uniq l) (a p : Int) : Uniq (l.map (markX a p)) := by
  unfold Uniq
  rw [List.pairwise_map]
  refine List.Pairwise.imp (fun {x y} h1 h2 => h1 ?_) h
  have k1 := markX_key a p x
  have k2 := markX_key a p y
  unfold alike at h2 ⊢
  rw [k1.1, k1.2, k2.1, k2.2] at h2
  exact h2
/-! what each call comes to -/
structure TOk (n : Int) (ys : List Tr) : Prop where
  n1 : 1 ≤ n
  n2 : n ≤ 64
  len : (ys.length : Int) ≤ n
  uniq : Uniq ys
def findT (ys : List Tr) (a p : Int) : List Tr := if askE a p = 0 then (match ys.find? (kB a p) with | some x => x :: rm a p ys | none => ys) else ys
def fillE (x : Tr) : Int := if askE x.a x.p = 0 then (if 0 ≤ x.f ∧ x.f < 4096 then 0 else 2) else askE x.a x.p
def fillT (n : Int) (ys : List Tr) (x : Tr) : List Tr := if fillE x = 0 then x :: (rm x.a x.p ys).take (n - 1).toNat else ys
def markT (ys : List Tr) (a p : Int) : List Tr := if askE a p = 0 then ys.map (markX a p) else ys
def hasT (ys : List Tr) (a p : Int) : Bool := if askE a p = 0 then (ys.find? (kB a p)).isSome else false
def dropT (ys : List Tr) (a p : Int) : List Tr := if askE a p = 0 then rm a p ys else ys
def dropA (ys : List Tr) (a : Int) : List Tr := ys.filter fun x => !decide (x.a = a)
def dallT (ys : List Tr) (a : Int) : List Tr := if askE a 0 = 0 then dropA ys a else ys
def dallN (ys : List Tr) (a : Int) : Int := if askE a 0 = 0 then (ys.length : Int) - (dropA ys a).length else 0
theorem rm_lt {a p : Int} {l : List Tr} {x : Tr} (h : l.find? (kB a p) = some x) : (rm a p l).length < l.length := by
  have hm := find_mem h
  refine Nat.lt_of_le_of_ne (rm_len a p l) fun he => ?_
  have h1 : rm a p l = l := (rm_sub a p l).eq_of_length he
  have h2 := (mem_rm (a := a) (p := p) (l := l) (x := x)).1 (by rw [h1]; exact hm.1)
  rw [hm.2] at h2
  cases h2.2
theorem TOk.findT {n : Int} {ys : List Tr} (h : TOk n ys) (a p : Int) : TOk n (findT ys a p) := by
  unfold Go.Proofs.Ythmllhihldbfoaa.Tl.findT
  split
  · split
    · rename_i x hx
      have hm := find_mem hx
      have hk := kB_iff.1 hm.2
      refine ⟨h.n1, h.n2, ?_, ?_⟩
      · have := rm_lt hx; have := h.len; rw [List.length_cons]; omega
      · have := h.uniq.cons_rm x; rwa [hk.1, hk.2] at this
    · exact h
  · exact h
theorem TOk.fillT {n : Int} {ys : List Tr} (h : TOk n ys) (x : Tr) : TOk n (fillT n ys x) := by
  unfold Go.Proofs.Ythmllhihldbfoaa.Tl.fillT
  split
  · refine ⟨h.n1, h.n2, ?_, (h.uniq.cons_rm x).sub ((List.take_sublist _ _).cons_cons _)⟩
    have := h.n1
    rw [List.length_cons, List.length_take]
    omega
  · exact h
theorem TOk.markT {n : Int} {ys : List Tr} (h : TOk n ys) (a p : Int) : TOk n (markT ys a p) := by
  unfold Go.Proofs.Ythmllhihldbfoaa.Tl.markT
  split
  · exact ⟨h.n1, h.n2, by rw [List.length_map]; exact h.len, h.uniq.map_mark a p⟩
  · exact h
theorem TOk.filter {n : Int} {ys : List Tr} (h : TOk n ys) (q : Tr → Bool) : TOk n (ys.filter q) :=
  ⟨h.n1, h.n2, by have := h.len; have := List.length_filter_le q ys; omega, h.uniq.filter q⟩
theorem TOk.dropT {n : Int} {ys : List Tr} (h : TOk n ys) (a p : Int) : TOk n (dropT ys a p) := by
  unfold Go.Proofs.Ythmllhihldbfoaa.Tl.dropT
  split
  · exact h.filter _
  · exact h
theorem TOk.dallT {n : Int} {ys : List Tr} (h : TOk n ys) (a : Int) : TOk n (dallT ys a) := by
  unfold Go.Proofs.Ythmllhihldbfoaa.Tl.dallT
  split
  · exact h.filter _
  · exact h
theorem TOk.nil {n : Int} (h1 : 1 ≤ n) (h2 : n ≤ 64) : TOk n [] := ⟨h1, h2, by simp; omega, List.Pairwise.nil⟩
end Go.Proofs.Ythmllhihldbfoaa.Tl
