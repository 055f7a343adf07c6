/- slices.SortFunc over the spans: the kit's contract, laid. -/
import Derived.Test.YtalkcemelegohaaAdA
import Derived.Test.YtalkcemelegohaaGs
import Derived.Test.YtalkcemelegohaaAdPa
import Derived.Shelf.SlSortCmp.NoneTotal
import Derived.Shelf.Lay
import Derived.Ground.SlsfProg
import Derived.WalkKit
import Derived.ProofKit
set_option linter.unusedVariables false
set_option maxRecDepth 100000
namespace Go.Proofs.Ytalkcemelegohaa.Ad
open Go.RowKit Go.Cof Go.Shelf Go.Lib Go.Sort

shelf_lay_g SlLaysF0.n6 Slsf 6 at Try 81 as Try.sortSpans
abbrev SM := { s : Sp // s.May }
instance : Inhabited SM := ⟨⟨⟨0, 0⟩, by decide⟩⟩
def encSM : Enc SM := ⟨fun x => encSp.enc x.1, 2, fun _ => rfl, by decide, fun x u hu => encSp.one x.1 u hu⟩
abbrev cmpS (x y : SM) : Int := x.1.p - y.1.p
theorem ltS (x y : SM) : ltOf cmpS x y = decide (x.1.p < y.1.p) := by
  unfold ltOf cmpS
  by_cases h : x.1.p < y.1.p
  · rw [decide_eq_true h, decide_eq_true (by omega)]
  · rw [decide_eq_false h, decide_eq_false (by omega)]
theorem swoS : SWO (ltOf cmpS) where
  irrefl x := by rw [ltS]; simp
  trans x y z h1 h2 := by rw [ltS] at *; simp at *; omega
  ntrans x y z h1 h2 := by rw [ltS] at *; simp at *; omega
set_option maxHeartbeats 1000000 in
theorem cmp_calls (x y : SM) (W : World) : Calls Try.prog 82 #[.agg #[.int .i64 x.1.p, .int .i64 x.1.n], .agg #[.int .i64 y.1.p, .int .i64 y.1.n]] W fun e w' => e = .returned (.int .i64 (cmpS x y)) ∧ ∃ q os', w' = grow (W.drewN q) os' := by
  obtain ⟨x0, x1, x2, x3⟩ := x.2
  obtain ⟨y0, y1, y2, y3⟩ := y.2
  have hw : IntKind.i64.wrap (x.1.p - y.1.p) = x.1.p - y.1.p := wrap_i64 (by omega) (by omega)
  go_enter Try.func82, Try.ntmps82
  go_wp2
  go_ret
  exact ⟨rfl, 0, _, by rw [alloc_eq_grow, alloc_eq_grow, grow_grow]; rfl⟩
theorem flat_SM (d : List SM) : flat encSM d = flat encSp (d.map Subtype.val) := by
  induction d with
  | nil => rfl
  | cons x d ih =>
    unfold flat at ih ⊢
    rw [List.flatMap_cons, List.map_cons, List.flatMap_cons, ih]; rfl
theorem own_SM {A : Option Addr} {m c : Nat} {d : List SM} {h : Hp} : own encSM A m c d h ↔ own encSp A m c (d.map Subtype.val) h := by
  unfold own
  rw [← flat_SM, List.length_map]
  have : d = [] ↔ d.map Subtype.val = [] := by cases d with
    | nil => exact ⟨fun _ => rfl, fun _ => rfl⟩
    | cons x d => exact ⟨fun h => (by cases h), fun h => (by cases h)⟩
  rw [this]
  exact Iff.rfl
theorem lift_SM : ∀ l : List Sp, (∀ s ∈ l, s.May) → ∃ d : List SM, d.map Subtype.val = l
  | [], _ => ⟨[], rfl⟩
  | s :: l, h => by
    obtain ⟨d, hd⟩ := lift_SM l fun t ht => h t (List.mem_cons_of_mem _ ht)
    exact ⟨⟨s, h s List.mem_cons_self⟩ :: d, by rw [List.map_cons, hd]⟩
theorem perm_of {d d' : Array SM} (h : PermIn 0 d.size d d') : d'.size = d.size ∧ d'.toList.Perm d.toList := by
  obtain ⟨h1, _, h2⟩ := h
  refine ⟨h1, ?_⟩
  have e1 : d.extract 0 d.size = d := by simp
  have e2 : d'.extract 0 d.size = d' := by rw [← h1]; simp
  rw [e1, e2] at h2
  exact h2
theorem sorted_of {d : Array SM} {n : Nat} (hn : d.size = n) (h : SortedIn (ltOf cmpS) 0 n d) : (d.toList.map Subtype.val).Pairwise fun s t : Sp => s.p ≤ t.p := by
  rw [List.pairwise_map]
  refine List.pairwise_iff_getElem.2 fun i j hi hj hij => ?_
  have hi' : i < d.size := by simpa using hi
  have hj' : j < d.size := by simpa using hj
  have := h i j (Nat.zero_le _) hij (by omega)
  rw [ltS, getElem!_pos d i hi', getElem!_pos d j hj'] at this
  have := of_decide_eq_false this
  simp only [Array.getElem_toList]
  omega
theorem agS (w : World) : (isAgg (Try.sortSpans_ren.t 24)).run Try.prog w = .ok true w := by
  have h := Cof.run_isAgg (t := 83) tt_ok w rfl
  exact h
theorem szS (w : World) : (Go.sizeOf (Try.sortSpans_ren.t 24)).run Try.prog w = .ok 2 w := by
  have h := Cof.run_sizeOf (t := 83) tt_ok w rfl
  exact h
theorem sort_spec (A : Option Addr) (m c : Nat) (l : List Sp) (hl : ∀ s ∈ l, s.May) (hm : m < 4611686018427387904) : Ctr Try.prog 81 [.slice A m c, .func (.func 82) #[] #[]] (fun _ => True) [own encSp A m c l] (fun v L => ∃ l', l'.Perm l ∧ l'.Pairwise (fun s t : Sp => s.p ≤ t.p) ∧ v = .tuple #[] ∧ L = [own encSp A m c l']) := by
  refine ⟨⟨_, Try.func81, by kernel_rfl, by kernel_rfl⟩, fun F w _ hs => ?_⟩
  obtain ⟨d, rfl⟩ := lift_SM l hl
  have hs : St F w [own encSM A m c d] := hs.imp fun h hh => stars_conv (k := 0) rfl (fun _ o => own_SM.2 o) hh
  obtain ⟨g, hg, _, hA⟩ := hs.at (k := 0) rfl
  cases A with
  | none =>
    rcases hA with ⟨_, rfl, rfl, rfl⟩ | ⟨_, _, _, h, _⟩
    · have h := AnyF.slices_SortFunc_none { Try.sortSpans with } none 0 (.func (.func 82) #[] #[]) w
      change Calls Try.prog 81 _ _ _ at h
      refine h.mono ?_
      rintro e w' ⟨rfl, rfl⟩
      exact ⟨.tuple #[], _, rfl, ⟨[], List.Perm.refl _, List.Pairwise.nil, rfl, rfl⟩, hs.imp fun h hh => stars_conv (B := own encSp none 0 0 []) (k := 0) rfl (fun _ o => own_SM.1 o) hh⟩
    · cases h
  | some a =>
    obtain ⟨b, rfl⟩ : ∃ b, a = ⟨b, 0, none⟩ := by
      rcases hA with ⟨h, _⟩ | ⟨b, _, _, h, _⟩
      · cases h
      · cases h; exact ⟨b, rfl⟩
    have hlen := (own_len hA).1
    have hH := own_holds hg hA
    have hblk : b < w.heap.size := by
      rcases hA with ⟨h, _⟩ | ⟨b', cur, e, h0, h1, _⟩
      · cases h
      · cases h0; exact (Array.getElem?_eq_some_iff.1 (hg _ _ h1)).1
    have eg : ∀ args w, (callFunc 82 args).run Try.prog w = .ok (.enter 82 args) w := enters_of Try.func82 (by kernel_rfl) rfl
    have hcon := AnyQ.slices_SortFunc Try.sortSpans 2 agS szS encSM.enc (fun _ => rfl) encSM.one cmpS swoS 82 #[] b 0 c d.toArray w eg (fun _ _ _ _ x y => cmp_calls x y _) hH hblk (by simpa [← hlen] using hm)
    change Calls Try.prog 81 _ _ _ at hcon
    simp only [List.size_toArray, ← hlen] at hcon
    refine hcon.mono ?_
    rintro e w' ⟨rfl, d', n, os, hp, hso, rfl⟩
    have hp' : PermIn 0 d.toArray.size d.toArray d' := by simpa [← hlen] using hp
    obtain ⟨h1, h2⟩ := perm_of hp'
    have h3 := sorted_of (by simpa [← hlen] using h1) hso
    refine ⟨.tuple #[], _, rfl, ⟨d'.toList.map Subtype.val, ?_, h3, rfl, rfl⟩, ?_⟩
    · exact (h2.map _)
    · have h4 := St.sorted hs (k := 0) rfl d' (by simpa using h1) n os
      exact h4.imp fun h hh => stars_conv (k := 0) rfl (fun _ o => own_SM.1 o) hh
end Go.Proofs.Ytalkcemelegohaa.Ad
