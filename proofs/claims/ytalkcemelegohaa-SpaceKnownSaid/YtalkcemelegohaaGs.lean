/- slices.SortFunc over slices of one's own, from the kit's contract at whatever length. -/
import Derived.Test.YtalkcemelegohaaSlZ
import Derived.Shelf.GgSortFunc.InsertionK
set_option linter.unusedVariables false
namespace Go.Proofs.Ytalkcemelegohaa
open Go.RowKit Go.Cof Go.Sort

section
variable {α : Type} [Inhabited α] {E : Enc α}
theorem St.grown {F : Frz} {w : World} {L : List HProp} (hs : St F w L) (os : Array Obj) : St F (grow w os) L := by
  have hle : Hp.le (World.hp w) (World.hp (grow w os)) := ⟨fun b o hb => by
    have hb : w.heap[b]? = some o := hb
    show (w.heap ++ os)[b]? = some o
    rw [Array.getElem?_append_left (Array.getElem?_eq_some_iff.1 hb).1]; exact hb⟩
  refine ⟨hs.os, hs.tape, hs.output, ?_, hs.frz.trans hle, ?_⟩
  · show F.size ≤ (w.heap ++ os).size
    rw [Array.size_append]
    exact Nat.le_trans hs.size (Nat.le_add_right _ _)
  · obtain ⟨g, h1, h2, h3⟩ := hs.own
    exact ⟨g, h1.trans hle, h2, h3⟩
theorem flat_toList (d : Array α) : flat E d.toList = (flatK E.enc E.sz d).toList := by
  refine List.ext_getElem? fun t => ?_
  have hp := E.pos
  by_cases ht : t < d.size * E.sz
  · have hq : t / E.sz < d.size := (Nat.div_lt_iff_lt_mul hp).2 ht
    have hm : t % E.sz < E.sz := Nat.mod_lt _ hp
    have hu : (E.enc d[t / E.sz]!)[t % E.sz]? = some (E.enc d[t / E.sz]!)[t % E.sz]! := by
      rw [getElem!_pos (E.enc d[t / E.sz]!) (t % E.sz) (by rw [E.len]; exact hm)]; exact List.getElem?_eq_getElem _
    have h := flat_get E d.toList (t / E.sz) d[t / E.sz]! (t % E.sz) _ (by rw [Array.getElem?_toList, Array.getElem?_eq_getElem hq, getElem!_pos d _ hq]) hu
    rw [Nat.mul_comm, Nat.div_add_mod] at h
    rw [h, ← get_flatK E.enc E.sz d t ht, Array.getElem?_toList, Array.getElem?_eq_getElem (by rw [size_flatK]; exact ht), getElem!_pos _ t (by rw [size_flatK]; exact ht)]
  · rw [List.getElem?_eq_none (by rw [flat_length]; simp; omega), List.getElem?_eq_none (by simp; omega)]
theorem own_holds {b m c : Nat} {xs : List α} {g : Hp} {w : World} (hg : Hp.le g (World.hp w)) (hA : own E (some ⟨b, 0, none⟩) m c xs g) : HoldsK E.enc E.sz w b 0 xs.toArray := by
  intro j hj
  rcases hA with ⟨h, _⟩ | ⟨g0, cur, e, h0, h1, h2, h3, h4, h5, h6⟩
  · cases h
  · cases h0
    have hb : w.heap[b]? = some (.cells cur e (0, 0)) := hg _ _ h1
    rw [size_flatK] at hj
    simp only [List.size_toArray] at hj
    have hcell : cur[j]? = some (flatK E.enc E.sz xs.toArray)[j]! := by
      have hx := flat_toList (E := E) xs.toArray
      simp only [List.toList_toArray] at hx
      have h7 : (cur.toList.take (m * E.sz))[j]? = ((flatK E.enc E.sz xs.toArray).toList)[j]? := by rw [h6, hx]
      rw [List.getElem?_take, if_pos (by rw [h2]; exact hj), Array.getElem?_toList, Array.getElem?_toList] at h7
      rw [h7, getElem!_pos _ j (by rw [size_flatK]; simpa using hj), Array.getElem?_eq_getElem]
    constructor
    · show (match w.heap[b]? with | some (.cells c _ _) => _ | _ => none) = _
      rw [hb]
      simp only [Option.isSome_none, Nat.zero_add]
      exact hcell
    · show (match w.heap[b]? with | some (.cells _ _ (lo, hi)) => _ | _ => false) = _
      rw [hb]
      simp
theorem St.sorted {F : Frz} {w : World} {L : List HProp} {k b m c : Nat} {xs : List α} (hs : St F w L) (hk : L[k]? = some (own E (some ⟨b, 0, none⟩) m c xs)) (d : Array α) (hd : d.size = xs.length) (n : Nat) (os : Array Obj) : St F (sortWorldK E.enc E.sz w b 0 n d os) (L.set k (own E (some ⟨b, 0, none⟩) m c d.toList)) := by
  refine St.grown ?_ os
  refine hs.turnAt hk fun g hg hA => ?_
  rcases hA with ⟨h, _⟩ | ⟨g0, cur, e, h0, h1, h2, h3, h4, h5, h6⟩
  · cases h
  · cases h0
    have hb : w.heap[b]? = some (.cells cur e (0, 0)) := hg _ _ h1
    have hlt := (Array.getElem?_eq_some_iff.1 hb).1
    have hF : (flatK E.enc E.sz d).size = m * E.sz := by rw [size_flatK, hd, h2]
    have hsz : m * E.sz ≤ cur.size := by rw [h5]; exact Nat.mul_le_mul_right _ h3
    refine ⟨b, by rw [h1]; simp, rfl, rfl, rfl, ?_, fun j hj _ => ?_, Hp.one b (.cells (putCells id 0 (flatK E.enc E.sz d) cur) e (0, 0)), fun j o hj => ?_, .inr ⟨b, _, e, rfl, by simp [Hp.one]; rfl, by rw [h2]; simpa using hd.symm, h3, h4, ?_, ?_⟩⟩
    · show w.heap.size ≤ (w.heap.modify b _).size
      rw [Array.size_modify]; exact Nat.le_refl _
    · show (w.heap.modify b _)[j]? = w.heap[j]?
      rw [Array.getElem?_modify, if_neg (fun h => hj h.symm)]
    · simp only [Hp.one] at hj
      split at hj
      · rename_i e1
        cases hj; subst e1
        refine ⟨?_, .inl (by rw [h1]; simp)⟩
        show (w.heap.modify j _)[j]? = _
        rw [Array.getElem?_modify, if_pos rfl, hb]
        rfl
      · cases hj
    · simp only [putCells, Array.size_mapIdx]; exact h5
    · rw [flat_toList]
      refine List.ext_getElem? fun t => ?_
      by_cases ht : t < m * E.sz
      · rw [List.getElem?_take, if_pos ht, Array.getElem?_toList, Array.getElem?_toList]
        simp only [putCells, Array.getElem?_mapIdx]
        rw [Array.getElem?_eq_getElem (show t < cur.size by omega), Array.getElem?_eq_getElem (show t < (flatK E.enc E.sz d).size by omega)]
        simp only [Option.map_some, Nat.zero_le, Nat.zero_add, true_and, hF, ht, if_true, Nat.sub_zero, id]
        rw [getElem!_pos _ t (by omega)]
      · rw [List.getElem?_take, if_neg ht, List.getElem?_eq_none (by simp [size_flatK]; rw [← size_flatK E.enc E.sz d, hF]; omega)]
end
end Go.Proofs.Ytalkcemelegohaa
