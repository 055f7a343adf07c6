/- Held blocks are those that are taken. The plain part. -/
import Derived.Test.YtkcpjgdmfjhlkaaLa
set_option linter.unusedVariables false
namespace Go.Proofs.Ytkcpjgdmfjhlkaa
open Go.RowKit Go.Cof

theorem O_ext {l m : List Bool} (hl : l.length = m.length) (h : ∀ i, O l i ↔ O m i) : l = m := by
  refine List.ext_getElem hl fun i h1 h2 => ?_
  have := h i
  unfold O at this
  rw [List.getD_eq_getElem?_getD, List.getElem?_eq_getElem h1, List.getD_eq_getElem?_getD, List.getElem?_eq_getElem h2] at this
  simp only [Option.getD_some] at this
  cases ha : l[i] <;> cases hb : m[i] <;> simp_all
theorem reopen {op : List Bool} {a n : Nat} (hl : a + n ≤ op.length) (h : ∀ i, a ≤ i → i < a + n → O op i) : setN (setN op a n false) a n true = op := by
  refine O_ext (by rw [setN_len, setN_len]) fun i => ?_
  rw [setN_at]
  by_cases hi : a ≤ i ∧ i < a + n ∧ i < (setN op a n false).length
  · rw [if_pos hi]; exact ⟨fun _ => h i hi.1 hi.2.1, fun _ => rfl⟩
  · rw [if_neg hi, setN_at]
    rw [setN_len] at hi
    rw [if_neg hi]
structure HOk (tk : Int → Option Int) (hs : List Hb) : Prop where
  tt : ∀ x ∈ hs, tk x.1 = some x.2
  nd : (hs.map Prod.fst).Nodup
  all : ∀ v o, tk v = some o → (v, o) ∈ hs
theorem HOk.nil : HOk (fun _ => none) [] := ⟨fun x h => (by cases h), List.nodup_nil, fun v o h => (by cases h)⟩
theorem HOk.take {tk : Int → Option Int} {hs : List Hb} (h : HOk tk hs) {a o : Int} (ha : tk a = none) : HOk (updI tk a (some o)) (hs ++ [(a, o)]) := by
  have hne : ∀ x ∈ hs, x.1 ≠ a := fun x hx e => by have := h.tt x hx; rw [e, ha] at this; cases this
  refine ⟨fun x hx => ?_, ?_, fun v q hv => ?_⟩
  · show (if a = x.1 then some o else tk x.1) = some x.2
    rcases List.mem_append.1 hx with hx | hx
    · rw [if_neg (fun e => hne x hx e.symm)]; exact h.tt x hx
    · obtain rfl := List.mem_singleton.1 hx
      rw [if_pos rfl]
  · rw [List.map_append, List.map_singleton]
    refine List.nodup_append.2 ⟨h.nd, by simp, fun x hx y hy => ?_⟩
    obtain ⟨z, hz, rfl⟩ := List.mem_map.1 hx
    rw [List.mem_singleton.1 hy]
    exact hne z hz
  · have hv : (if a = v then some o else tk v) = some q := hv
    by_cases e : a = v
    · rw [if_pos e] at hv; cases hv; subst e; simp
    · rw [if_neg e] at hv
      exact List.mem_append_left _ (h.all v q hv)
theorem era_ne {hs : List Hb} {q : Nat} (hq : q < hs.length) (hn : (hs.map Prod.fst).Nodup) : ∀ x ∈ hs.eraseIdx q, x.1 ≠ (Cof.get hs (q : Int)).1 := by
  intro x hx e
  obtain ⟨i, hi, rfl⟩ := List.getElem_of_mem hx
  rw [get_getElem hq] at e
  have hnd := List.pairwise_iff_getElem.1 hn
  rw [List.length_eraseIdx_of_lt hq] at hi
  rw [List.getElem_eraseIdx] at e
  split at e
  · rename_i h1
    exact hnd i q (by simp; omega) (by simp; exact hq) h1 (by simp; exact e)
  · exact hnd q (i + 1) (by simp; exact hq) (by simp; omega) (by omega) (by simp; exact e.symm)
theorem era_in {hs : List Hb} {q : Nat} (hq : q < hs.length) {x : Hb} (hx : x ∈ hs) (hne : x.1 ≠ (Cof.get hs (q : Int)).1) : x ∈ hs.eraseIdx q := by
  obtain ⟨i, hi, rfl⟩ := List.getElem_of_mem hx
  rw [get_getElem hq] at hne
  have hiq : i ≠ q := fun e => by subst e; exact hne rfl
  exact List.mem_eraseIdx_iff_getElem.2 ⟨i, hi, hiq, rfl⟩
theorem HOk.give {tk : Int → Option Int} {hs : List Hb} (h : HOk tk hs) {q : Nat} (hq : q < hs.length) : HOk (updI tk (Cof.get hs (q : Int)).1 none) (hs.eraseIdx q) := by
  refine ⟨fun x hx => ?_, h.nd.sublist ((List.eraseIdx_sublist _ _).map _), fun v o hv => ?_⟩
  · show (if (Cof.get hs (q : Int)).1 = x.1 then none else tk x.1) = some x.2
    rw [if_neg (fun e => era_ne hq h.nd x hx e.symm)]
    exact h.tt x ((List.eraseIdx_sublist _ _).subset hx)
  · have hv : (if (Cof.get hs (q : Int)).1 = v then none else tk v) = some o := hv
    by_cases e : (Cof.get hs (q : Int)).1 = v
    · rw [if_pos e] at hv; cases hv
    · rw [if_neg e] at hv
      exact era_in hq (h.all v o hv) (fun e2 => e e2.symm)
theorem TkOk.free {op : List Bool} {tk : Int → Option Int} (h : TkOk op tk) {a : Nat} (ha : O op a) : tk (a : Int) = none := by
  cases e : tk (a : Int) with
  | none => rfl
  | some o =>
    obtain ⟨b, k, e1, e2, hk⟩ := h.blk _ _ e
    obtain rfl : a = b := by omega
    have := two_pos k
    exact absurd ha (hk.cl a (Nat.le_refl _) (by omega))
theorem giveX_spec (p n : Nat) (op : List Bool) (fs : List (List Int)) (tk : Int → Option Int) (x : Hb) (a k : Nat) (e1 : x.1 = a) (e2 : x.2 = k) (hn : op.length ≤ 4096) (hb : BOk op fs) (hk : Tkb op a k) (ht : tk x.1 = some x.2) :
    Ctr Try.prog 13 [ptr p, iV x.1, iV x.2] (fun _ => True) [isBd p n fs tk] (fun v L => ∃ gs, BOk (setN op a (2 ^ k) true) gs ∧ v = iV 0 ∧ L = [isBd p n gs (updI tk x.1 none)]) := by
  rw [e1, e2] at ht
  have h := giveOk_spec p n op fs tk k a hn hb hk.k6 hk.dv hk.le hk.cl ht
  rw [← e1, ← e2] at h
  exact h
theorem takeA_spec (p n : Nat) (op : List Bool) (fs : List (List Int)) (tk : Int → Option Int) (o k a : Nat) (hn : op.length ≤ 4096) (hb : BOk op fs) (h2 : k ≤ 6) (h1 : o ≤ k) (h3 : ∀ j : Nat, o ≤ j → j < k → Cof.get (lsF op) (j : Int) = []) (h4 : Cof.get (lsF op) (k : Int) ≠ []) (h5 : Cof.get (Cof.get (lsF op) (k : Int)) 0 = a) :
    Ctr Try.prog 11 [ptr p, iV o] (fun _ => True) [isBd p n fs tk] (fun v L => ∃ gs, BOk (setN op a (2 ^ o) false) gs ∧ v = .tuple #[iV a, iV 0] ∧ L = [isBd p n gs (updI tk a (some o))]) := by
  rw [← hb.fs] at h3 h4 h5
  exact takeOk_spec p n op fs tk o k a hn hb h2 h1 h3 h4 h5
theorem takeN_spec (p n : Nat) (op : List Bool) (fs : List (List Int)) (tk : Int → Option Int) (o : Nat) (ho : o ≤ 6) (hb : BOk op fs) (he : ∀ j : Nat, o ≤ j → j ≤ 6 → Cof.get (lsF op) (j : Int) = []) : Ctr Try.prog 11 [ptr p, iV o] (fun _ => True) [isBd p n fs tk] (fun v L => v = .tuple #[iV 0, iV 90] ∧ L = [isBd p n fs tk]) := by
  rw [← hb.fs] at he
  exact takeNo_spec p n fs tk o ho he
structure Bst where
  i : Nat
  op : List Bool
  fs : List (List Int)
  tk : Int → Option Int
  A : Option Addr
  m : Nat
  c : Nat
  hs : List Hb
structure Bst.Ok (s : Bst) (n : Nat) : Prop where
  len : s.op.length = n
  b : BOk s.op s.fs
  t : TkOk s.op s.tk
  h : HOk s.tk s.hs
theorem Bst.Ok.took {s : Bst} {n : Nat} (h : s.Ok n) {o k a : Nat} {gs : List (List Int)} {A : Option Addr} {m c i : Nat} (hb : BOk (setN s.op a (2 ^ o) false) gs) (ho : o ≤ k) (hk : k ≤ 6) (hm : Mx s.op a k) : Bst.Ok ⟨i, setN s.op a (2 ^ o) false, gs, updI s.tk a (some o), A, m, c, s.hs ++ [((a : Int), (o : Int))]⟩ n := by
  obtain ⟨hd, hl, hc⟩ := hm.open ho
  have hp := two_pos o
  exact ⟨by show (setN s.op a (2 ^ o) false).length = n; rw [setN_len]; exact h.len, hb, h.t.take (by omega) hd hl hc, h.h.take (h.t.free (hc a (Nat.le_refl _) (by omega)))⟩
theorem Bst.Ok.held {s : Bst} {n : Nat} (h : s.Ok n) {q : Nat} (hq : q < s.hs.length) : ∃ a k : Nat, (Cof.get s.hs (q : Int)).1 = a ∧ (Cof.get s.hs (q : Int)).2 = k ∧ Tkb s.op a k ∧ s.tk (Cof.get s.hs (q : Int)).1 = some (Cof.get s.hs (q : Int)).2 := by
  have hx := h.h.tt _ (get_mem' (l := s.hs) (i := (q : Int)) (by omega) (by omega))
  obtain ⟨a, k, e1, e2, hk⟩ := h.t.blk _ _ hx
  exact ⟨a, k, e1, e2, hk, hx⟩
theorem Bst.Ok.gave {s : Bst} {n : Nat} (h : s.Ok n) {q a k : Nat} (hq : q < s.hs.length) (e1 : (Cof.get s.hs (q : Int)).1 = a) (e2 : (Cof.get s.hs (q : Int)).2 = k) (ht : s.tk (Cof.get s.hs (q : Int)).1 = some (Cof.get s.hs (q : Int)).2) {gs : List (List Int)} {A : Option Addr} {m c i : Nat} (hb : BOk (setN s.op a (2 ^ k) true) gs) : Bst.Ok ⟨i, setN s.op a (2 ^ k) true, gs, updI s.tk (Cof.get s.hs (q : Int)).1 none, A, m, c, s.hs.eraseIdx q⟩ n := by
  have h1 := h.h.give hq
  rw [e1, e2] at ht
  refine ⟨by show (setN s.op a (2 ^ k) true).length = n; rw [setN_len]; exact h.len, hb, ?_, h1⟩
  show TkOk (setN s.op a (2 ^ k) true) (updI s.tk (Cof.get s.hs (q : Int)).1 none)
  rw [e1]
  exact h.t.give ht
end Go.Proofs.Ytkcpjgdmfjhlkaa
