/- Rows of numbers with a hand, in plain lists. -/
import Derived.Test.YtgbcagcaaegciaaGi
set_option linter.unusedVariables false
namespace Go.Proofs.Ytgbcagcaaegciaa
open Go.RowKit Go.Cof

def rotL (xs : List Int) (h : Nat) : List Int := xs.drop h ++ xs.take h
theorem rotL_zero (xs : List Int) : rotL xs 0 = xs := by unfold rotL; simp
theorem rotL_app (u v : List Int) : rotL (u ++ v) u.length = v ++ u := by
  unfold rotL
  rw [List.drop_left, List.take_left]
theorem rotL_perm (xs : List Int) (h : Nat) : (rotL xs h).Perm xs := by
  have h1 : (rotL xs h).Perm (xs.take h ++ xs.drop h) := List.perm_append_comm
  rwa [List.take_append_drop] at h1
theorem rotL_mem {xs : List Int} {h : Nat} {x : Int} : x ∈ rotL xs h ↔ x ∈ xs := (rotL_perm xs h).mem_iff
theorem rotL_len (xs : List Int) (h : Nat) : (rotL xs h).length = xs.length := (rotL_perm xs h).length_eq
theorem rotL_nodup {xs : List Int} (hn : xs.Nodup) (h : Nat) : (rotL xs h).Nodup := (rotL_perm xs h).nodup_iff.2 hn
theorem rotL_step {xs : List Int} {h : Nat} (hl : h < xs.length) : ∃ t, rotL xs h = Cof.get xs h :: t ∧ rotL xs ((h + 1) % xs.length) = t ++ [Cof.get xs h] := by
  refine ⟨xs.drop (h + 1) ++ xs.take h, ?_, ?_⟩
  · unfold rotL
    rw [get_getElem hl, List.drop_eq_getElem_cons hl]
    rfl
  · by_cases h1 : h + 1 = xs.length
    · rw [h1, Nat.mod_self, rotL_zero, ← h1, List.drop_of_length_le (by omega), List.nil_append, ← take_snoc' xs h hl, h1, List.take_length]
    · rw [Nat.mod_eq_of_lt (by omega)]
      unfold rotL
      rw [take_snoc' xs h hl, List.append_assoc]
structure ROk (xs : List Int) (h : Nat) : Prop where
  nodup : xs.Nodup
  len : xs.length ≤ 4096
  hand : h < xs.length ∨ xs = [] ∧ h = 0
def rmI (id : Int) (xs : List Int) : List Int := xs.filter fun x => !qI id x
theorem rmI_none {id : Int} {xs : List Int} (h : id ∉ xs) : rmI id xs = xs := List.filter_eq_self.2 fun x hx => by
  have : qI id x = false := decide_eq_false fun e => h (e ▸ hx)
  rw [this]; rfl
theorem erase_rmI {id : Int} : ∀ {l : List Int}, l.Nodup → firstQ (qI id) l < l.length → l.eraseIdx (firstQ (qI id) l) = rmI id l
  | [], _, h => by simp [firstQ] at h
  | x :: l, hu, h => by
    have hu2 := List.nodup_cons.1 hu
    cases hk : qI id x with
    | true =>
      rw [firstQ_cons_t hk, List.eraseIdx_cons_zero]
      unfold rmI
      rw [List.filter_cons_of_neg (by rw [hk]; decide)]
      obtain rfl : id = x := of_decide_eq_true hk
      exact (rmI_none hu2.1).symm
    | false =>
      rw [firstQ_cons_f hk, List.length_cons] at h
      rw [firstQ_cons_f hk, List.eraseIdx_cons_succ, erase_rmI hu2.2 (by omega)]
      unfold rmI
      rw [List.filter_cons_of_pos (by rw [hk]; decide)]
theorem rmI_len {id : Int} {l : List Int} (hn : l.Nodup) (hm : id ∈ l) : (rmI id l).length = l.length - 1 := by
  have h1 := (firstQ_mem id l).2 hm
  rw [← erase_rmI hn h1, List.length_eraseIdx_of_lt h1]
theorem rmI_app (id : Int) (u v : List Int) : rmI id (u ++ v) = rmI id u ++ rmI id v := List.filter_append ..
theorem rmI_nodup {id : Int} {l : List Int} (h : l.Nodup) : (rmI id l).Nodup := h.filter _
theorem rmI_not_mem (id : Int) (l : List Int) : id ∉ rmI id l := fun h => by
  have := (List.mem_filter.1 h).2
  simp [qI] at this
theorem first_take {id : Int} {l : List Int} {h : Nat} (hl : h ≤ l.length) : firstQ (qI id) l < h ↔ id ∈ l.take h := by
  constructor
  · intro h1
    have h2 := firstQ_lt (q := qI id) (l := l) (by omega)
    have h3 : id = Cof.get l (firstQ (qI id) l) := of_decide_eq_true h2
    rw [get_getElem (by omega)] at h3
    rw [List.mem_take_iff_getElem]
    exact ⟨firstQ (qI id) l, by omega, h3.symm⟩
  · intro h1
    obtain ⟨j, hj, e⟩ := List.mem_take_iff_getElem.1 h1
    refine Decidable.byContradiction fun hn => ?_
    have h2 := firstQ_before (q := qI id) (l := l) (j := j) (by omega)
    rw [get_getElem (by omega), e] at h2
    simp [qI] at h2
/-! what each call comes to -/
def addE (ys : List Int) (id : Int) : Int := if id < 0 then 2 else if id ∈ ys then 91 else if 4096 ≤ ys.length then 4 else 0
def addT (ys : List Int) (id : Int) : List Int := if addE ys id = 0 then ys ++ [id] else ys
def remE (ys : List Int) (id : Int) : Int := if id ∈ ys then 0 else 190
theorem addE_ok {ys : List Int} {id : Int} (h0 : ¬ id < 0) (h1 : id ∉ ys) (h2 : ¬ 4096 ≤ ys.length) : addE ys id = 0 := by unfold addE; rw [if_neg h0, if_neg h1, if_neg h2]
theorem addT_ok {ys : List Int} {id : Int} (h : addE ys id = 0) : addT ys id = ys ++ [id] := if_pos h
theorem addT_no {ys : List Int} {id : Int} (h : addE ys id ≠ 0) : addT ys id = ys := if_neg h
structure YOk (ys : List Int) : Prop where
  nodup : ys.Nodup
  len : ys.length ≤ 4096
theorem ROk.y {xs : List Int} {h : Nat} (o : ROk xs h) : YOk (rotL xs h) := ⟨rotL_nodup o.nodup h, by rw [rotL_len]; exact o.len⟩
theorem YOk.r {ys : List Int} (o : YOk ys) : ROk ys 0 := ⟨o.nodup, o.len, by cases ys with | nil => exact .inr ⟨rfl, rfl⟩ | cons y ys => exact .inl (by simp)⟩
theorem nodup_snoc {ys : List Int} {id : Int} (h : ys.Nodup) (hn : id ∉ ys) : (ys ++ [id]).Nodup := by
  rw [List.nodup_append]
  exact ⟨h, by simp, fun a ha b hb e => hn (by rw [← List.mem_singleton.1 hb, ← e]; exact ha)⟩
theorem YOk.add {ys : List Int} (o : YOk ys) (id : Int) : YOk (addT ys id) := by
  unfold addT
  split
  · rename_i h
    unfold addE at h
    split at h
    · cases h
    · split at h
      · cases h
      · split at h
        · cases h
        · exact ⟨nodup_snoc o.nodup (by assumption), by rw [List.length_append]; simp; omega⟩
  · exact o
theorem YOk.rm {ys : List Int} (o : YOk ys) (id : Int) : YOk (rmI id ys) := ⟨rmI_nodup o.nodup, Nat.le_trans (List.length_filter_le _ _) o.len⟩
theorem YOk.nil : YOk [] := ⟨List.nodup_nil, Nat.zero_le _⟩
/-- One is put in ahead of the hand. -/
theorem ROk.insert {xs : List Int} {h : Nat} (o : ROk xs h) (h0 : h ≠ 0) {id : Int} (hn : id ∉ xs) (hl : ¬ 4096 ≤ xs.length) : ROk (xs.take h ++ id :: xs.drop h) (h + 1) ∧ rotL (xs.take h ++ id :: xs.drop h) (h + 1) = rotL xs h ++ [id] := by
  have hlt : h < xs.length := o.hand.elim (fun e => e) fun hh => absurd hh.2 h0
  have e : xs.take h ++ id :: xs.drop h = (xs.take h ++ [id]) ++ xs.drop h := by simp
  have hlen : (xs.take h ++ [id]).length = h + 1 := by rw [List.length_append, List.length_take]; simp; omega
  have hr : rotL (xs.take h ++ id :: xs.drop h) (h + 1) = rotL xs h ++ [id] := by
    rw [e, ← hlen, rotL_app]
    unfold rotL
    rw [List.append_assoc]
  refine ⟨⟨?_, ?_, .inl ?_⟩, hr⟩
  · refine (rotL_perm _ (h + 1)).nodup_iff.1 ?_
    rw [hr]
    exact nodup_snoc (rotL_nodup o.nodup h) (fun hm => hn (rotL_mem.1 hm))
  · simp only [List.length_append, List.length_cons, List.length_take, List.length_drop]; omega
  · simp only [List.length_append, List.length_cons, List.length_take, List.length_drop]; omega
theorem ROk.append {xs : List Int} (o : ROk xs 0) {id : Int} (hn : id ∉ xs) (hl : ¬ 4096 ≤ xs.length) : ROk (xs ++ [id]) 0 ∧ rotL (xs ++ [id]) 0 = rotL xs 0 ++ [id] := by
  refine ⟨⟨nodup_snoc o.nodup hn, by rw [List.length_append]; simp; omega, .inl (by simp)⟩, by rw [rotL_zero, rotL_zero]⟩
/-- One is taken out. -/
theorem ROk.remove {xs : List Int} {h : Nat} (o : ROk xs h) {id : Int} (hm : id ∈ xs) {h' : Nat} (hh : h' = if firstQ (qI id) xs < h then h - 1 else h) :
    (h' ≠ xs.length - 1 → ROk (rmI id xs) h' ∧ rotL (rmI id xs) h' = rmI id (rotL xs h)) ∧ (h' = xs.length - 1 → ROk (rmI id xs) 0 ∧ rotL (rmI id xs) 0 = rmI id (rotL xs h)) := by
  have hlt : h < xs.length := o.hand.elim (fun e => e) fun hh => by rw [hh.1] at hm; cases hm
  have hft := first_take (id := id) (l := xs) (h := h) (by omega)
  have htd : xs.take h ++ xs.drop h = xs := List.take_append_drop h xs
  have hrt : rmI id xs = rmI id (xs.take h) ++ rmI id (xs.drop h) := by rw [← rmI_app, htd]
  have hlen := rmI_len o.nodup hm
  have hnd := rmI_nodup (id := id) o.nodup
  have hpos : 0 < xs.length := List.length_pos_of_mem hm
  have hul : (rmI id (xs.take h)).length = h' := by
    rw [hh]
    by_cases hc : firstQ (qI id) xs < h
    · rw [if_pos hc, rmI_len (o.nodup.sublist (List.take_sublist _ _)) (hft.1 hc), List.length_take]; omega
    · rw [if_neg hc, rmI_none (fun hx => hc (hft.2 hx)), List.length_take]; omega
  have hrr : rmI id (rotL xs h) = rmI id (xs.drop h) ++ rmI id (xs.take h) := by unfold rotL; rw [rmI_app]
  have hr : rotL (rmI id xs) h' = rmI id (rotL xs h) := by rw [hrr, hrt, ← hul, rotL_app]
  have hle : h' ≤ xs.length - 1 := by rw [← hul, ← hlen, hrt, List.length_append]; omega
  constructor
  · intro hne
    exact ⟨⟨hnd, by have := o.len; omega, .inl (by omega)⟩, hr⟩
  · intro he
    have hv : rmI id (xs.drop h) = [] := List.eq_nil_of_length_eq_zero (by
      have h1 := congrArg List.length hrt
      rw [List.length_append] at h1; omega)
    refine ⟨⟨hnd, by have := o.len; omega, ?_⟩, ?_⟩
    · cases hrm : rmI id xs with
      | nil => exact .inr ⟨rfl, rfl⟩
      | cons a b => exact .inl (by simp)
    · rw [rotL_zero, hrr, hrt, hv, List.nil_append, List.append_nil]
/-! Next -/
section
variable {σ : Type} (ans : σ → Int → Bool) (nx : σ → Int → σ) (pin : Int)
def nextGo : Nat → Nat → List Int → σ → (Int × Nat × Int) × List Int × σ
  | 0, k, ys, s => ((0, k, 190), ys, s)
  | _ + 1, k, [], s => ((0, k, 190), [], s)
  | n + 1, k, y :: t, s => if y = pin then nextGo n (k + 1) (t ++ [y]) s else if ans s y then nextGo n (k + 1) (t ++ [y]) (nx s y) else ((y, k + 1, 0), t ++ [y], nx s y)
def nextF (ys : List Int) (s : σ) : (Int × Nat × Int) × List Int × σ := if ys = [] then ((0, 0, 190), [], s) else nextGo ans nx pin (2 * ys.length + 1) 0 ys s
theorem nextGo_pin {n k : Nat} {t : List Int} {s : σ} : nextGo ans nx pin (n + 1) k (pin :: t) s = nextGo ans nx pin n (k + 1) (t ++ [pin]) s := by
  rw [nextGo, if_pos rfl]
theorem nextGo_used {n k : Nat} {y : Int} {t : List Int} {s : σ} (hp : ¬ y = pin) (ha : ans s y = true) : nextGo ans nx pin (n + 1) k (y :: t) s = nextGo ans nx pin n (k + 1) (t ++ [y]) (nx s y) := by
  rw [nextGo, if_neg hp, if_pos ha]
theorem nextGo_found {n k : Nat} {y : Int} {t : List Int} {s : σ} (hp : ¬ y = pin) (ha : ans s y = false) : nextGo ans nx pin (n + 1) k (y :: t) s = ((y, k + 1, 0), t ++ [y], nx s y) := by
  rw [nextGo, if_neg hp, if_neg (by rw [ha]; decide)]
theorem nextGo_perm : ∀ (n k : Nat) (ys : List Int) (s : σ), (nextGo ans nx pin n k ys s).2.1.Perm ys
  | 0, k, ys, s => List.Perm.refl _
  | n + 1, k, [], s => List.Perm.refl _
  | n + 1, k, y :: t, s => by
    have h1 : (t ++ [y]).Perm (y :: t) := List.perm_append_comm
    rw [nextGo]
    split
    · exact (nextGo_perm n _ _ _).trans h1
    · split
      · exact (nextGo_perm n _ _ _).trans h1
      · exact h1
theorem nextF_perm (ys : List Int) (s : σ) : (nextF ans nx pin ys s).2.1.Perm ys := by
  unfold nextF
  split
  · rename_i h; rw [h]
  · exact nextGo_perm ..
theorem nextF_ok {ys : List Int} (o : YOk ys) (s : σ) : YOk (nextF ans nx pin ys s).2.1 := by
  have h := nextF_perm ans nx pin ys s
  exact ⟨h.nodup_iff.2 o.nodup, by rw [h.length_eq]; exact o.len⟩
theorem nextF_nil (s : σ) : nextF ans nx pin [] s = ((0, 0, 190), [], s) := if_pos rfl
theorem nextF_some {ys : List Int} (h : ys ≠ []) (s : σ) : nextF ans nx pin ys s = nextGo ans nx pin (2 * ys.length + 1) 0 ys s := if_neg h
end
end Go.Proofs.Ytgbcagcaaegciaa
