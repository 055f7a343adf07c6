/- The lists of a cache's set: one touched comes to the head. -/
import Derived.Test.YthmllhihldbfoaaGi
set_option linter.unusedVariables false
namespace Go.Cof
open Go.RowKit
section
variable {P : Program} {T : Tab} {F G : Frz} {n : Nat} {Q : Exit → Act → World → Prop} {e : Env} {L : List HProp} {ops : Array Oper} {l : List Oper} {d : Option Tmp} {ty : TypeId} {pos : String} {af : Array Edge}
/-- copy(l[1:a+1], l[:a]). -/
theorem XL_copyS {α : Type} [Inhabited α] {E : Enc α} (hT : TabOk P T) (k a : Nat) {s x : Operand} {t t2 el : TypeId} {i1 i2 : TI} {b m c pp cc dm dc m' c' sz : Nat} {B : Option Addr} {xs : List α} {e' : Env} (hk : L[k]? = some (own E (some ⟨b, 0, none⟩) m c xs)) (hv : evs e [s, x] = some [.slice (sbA (some ⟨b, 0, none⟩) sz pp cc) dm dc, .slice B m' c']) (hz : E.sz = sz) (hpp : pp = 1) (hcc : c = cc) (hdm : a = dm) (hm' : a = m') (hB : B = some ⟨b, 0, none⟩) (ha : a < m)
    (ht : look T t = some i1) (hd : i1.desc = .slice el) (he : look T el = some i2) (hsz : i2.size = E.sz) (hp : putE n d (.int .i64 (a : Nat)) e = some e')
    (h : XL P F n ops l Q e' (L.set k (own E (some ⟨b, 0, none⟩) m c (xs.take 1 ++ xs.take a ++ xs.drop (1 + a))))) : XL P F n ops (⟨d, .call ⟨.builtin .copy, #[s, x], #[t, t2]⟩, ty, pos, af, none⟩ :: l) Q e L := by
  subst hpp hcc hdm hm' hB hz
  refine XL_look (p := m ≤ c ∧ m = xs.length) (fun w hs => ?_) fun hmc => ?_
  · obtain ⟨g, _, _, hA⟩ := hs.at hk
    have := own_len hA
    exact ⟨this.2.1, this.1⟩
  have hrd : ∀ w, St F w L → rdS E (World.hp w) (some ⟨b, 0, none⟩) a (xs.take a) := fun w hs => by
    obtain ⟨g, hg, _, hA⟩ := hs.at hk
    exact ((own_rd hA).le hg).take a (by omega)
  by_cases hc : c = 1
  · subst hc
    have ha0 : a = 0 := by omega
    subst ha0
    have hv' : evs e [s, x] = some [.slice (some ⟨b, 0, none⟩) 0 dc, .slice (some ⟨b, 0, none⟩) 0 c'] := hv
    refine XL_copyJ hT k 0 0 [] hk hv' (Nat.zero_mul _).symm rfl (fun w hs => rdS.nil E _ _) (by omega) ht hd he hsz hp ?_
    have e1 : xs.take 0 ++ [] ++ xs.drop (0 + 0) = xs.take 1 ++ xs.take 0 ++ xs.drop (1 + 0) := by simp only [List.take_zero, List.nil_append, List.append_nil, Nat.add_zero, List.drop_zero, List.take_append_drop]
    rw [e1]; exact h
  · have hv' : evs e [s, x] = some [.slice (some ⟨b, 0 + 1 * E.sz, none⟩) a dc, .slice (some ⟨b, 0, none⟩) a c'] := by
      rw [hv, sbA_lit (by omega)]
    exact XL_copyJ hT k 1 a (xs.take a) hk hv' (by rw [Nat.zero_add]) (Nat.min_self _) hrd (by omega) ht hd he hsz hp h
end
end Go.Cof
namespace Go.Proofs.Ythmllhihldbfoaa
open Go.RowKit Go.Cof

def touchF (w : Nat) (l : List Int) (t : Int) : List Int := t :: (l.filter fun x => decide (x ≠ t)).take (w - 1)
theorem erase_first {t : Int} : ∀ {l : List Int}, l.Nodup → t ∈ l → l.eraseIdx (firstQ (qI t) l) = l.filter fun x => decide (x ≠ t)
  | [], _, h => by cases h
  | x :: l, hn, h => by
    by_cases e : t = x
    · subst e
      have hno : ∀ y ∈ l, decide (y ≠ t) = true := fun y hy => decide_eq_true (show y ≠ t from fun e => (List.nodup_cons.1 hn).1 (e ▸ hy))
      rw [firstQ_cons_t (by simp [qI]), List.eraseIdx_cons_zero, List.filter_cons, if_neg (by simp), List.filter_eq_self.2 hno]
    · have ht : t ∈ l := (List.mem_cons.1 h).resolve_left e
      rw [firstQ_cons_f (by simp [qI, e]), List.eraseIdx_cons_succ, erase_first (List.nodup_cons.1 hn).2 ht, List.filter_cons, if_pos (decide_eq_true (show x ≠ t from fun h => e h.symm))]
theorem filter_lt {t : Int} {l : List Int} (h : t ∈ l) : (l.filter fun x => decide (x ≠ t)).length < l.length := by
  refine Decidable.byContradiction fun hn => ?_
  have h1 : (l.filter fun x => decide (x ≠ t)).length ≤ l.length := List.length_filter_le _ _
  have h2 := (List.length_filter_eq_length_iff (p := fun x => decide (x ≠ t)) (l := l)).1 (by omega) t h
  simp at h2
theorem touch_hit {w : Nat} {l : List Int} {t : Int} (hn : l.Nodup) (hl : l.length ≤ w) (h : t ∈ l) : t :: l.eraseIdx (firstQ (qI t) l) = touchF w l t := by
  unfold touchF
  have := filter_lt h
  rw [erase_first hn h, List.take_of_length_le (by omega)]
theorem filter_miss {t : Int} {l : List Int} (h : t ∉ l) : (l.filter fun x => decide (x ≠ t)) = l := List.filter_eq_self.2 fun y hy => decide_eq_true (show y ≠ t from fun e => h (e ▸ hy))
theorem touch_room {w : Nat} {l : List Int} {t : Int} (hl : l.length < w) (h : t ∉ l) : t :: (l ++ [t]).eraseIdx l.length = touchF w l t := by
  unfold touchF
  rw [filter_miss h, List.take_of_length_le (by omega), List.eraseIdx_append_of_length_le (Nat.le_refl _), Nat.sub_self]; simp
theorem touch_full {w : Nat} {l : List Int} {t : Int} (hl : l.length = w) (h : t ∉ l) : t :: l.eraseIdx (w - 1) = touchF w l t := by
  unfold touchF
  rw [filter_miss h]
  congr 1
  rw [List.eraseIdx_eq_take_drop_succ, List.drop_of_length_le (by omega), List.append_nil]
theorem touchF_nd {w : Nat} {l : List Int} {t : Int} (hn : l.Nodup) : (touchF w l t).Nodup := by
  unfold touchF
  refine List.nodup_cons.2 ⟨fun h => ?_, (hn.filter _).sublist (List.take_sublist _ _)⟩
  have := (List.mem_filter.1 (List.mem_of_mem_take h)).2
  simp at this
theorem touchF_len {w : Nat} {l : List Int} {t : Int} (hw : 1 ≤ w) : (touchF w l t).length ≤ w := by
  unfold touchF
  rw [List.length_cons, List.length_take]; omega
theorem touchF_mem {w : Nat} {l : List Int} {t x : Int} (h : x ∈ touchF w l t) : x = t ∨ x ∈ l := by
  unfold touchF at h
  rcases List.mem_cons.1 h with h | h
  · exact .inl h
  · exact .inr (List.mem_filter.1 (List.mem_of_mem_take h)).1
/-- shifted by one, the first anew -/
theorem shift_set {l : List Int} {a : Nat} {t : Int} (h : a < l.length) : (l.take 1 ++ l.take a ++ l.drop (1 + a)).set 0 t = t :: l.eraseIdx a := by
  rw [List.eraseIdx_eq_take_drop_succ, Nat.add_comm 1 a]
  cases l with
  | nil => simp at h
  | cons x l => simp
end Go.Proofs.Ythmllhihldbfoaa
