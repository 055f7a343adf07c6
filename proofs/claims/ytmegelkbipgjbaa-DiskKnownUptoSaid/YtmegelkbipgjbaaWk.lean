/- slices.Sorted(maps.Keys(m)) over a map of one's own or a frozen one, from the kit's contract. -/
import Derived.Test.YtmegelkbipgjbaaGi
import Derived.Shelf.SlIterI.Nil
import Derived.Shelf.SortM.Plain
import Derived.Shelf.SortM.SortNone
import Derived.Ground.GgzProg
import Derived.Ground.SlgmProg
import Derived.WalkKit
import Derived.ProofKit
set_option linter.unusedVariables false
namespace Go.Proofs.Ytmegelkbipgjbaa
open Go.RowKit Go.Cof Go.Shelf Go.Lib Go.Sort Go.Maps

shelf_lay_g SlLaysZI.n7 Ggz 7 at Try 27 as Try.keysA
shelf_lay_g SlLaysZI.n6 Ggz 6 at Try 26 as Try.sortedA
shelf_lay_g SlLaysM.n5 Slgm 5 at Try 31 as Try.sortA

theorem sortsA (m : Nat) : AnyZI.SortsIn Try.prog Try.sortedA_ren Fence.wide m :=
  ⟨fun blk off cap ss W hH hblk hsz => callsIn_wide.2 (AnyM.slices_Sort_int Try.sortA blk off cap ss W hH hblk hsz),
   fun p cap W => callsIn_wide.2 (AnyM.slices_Sort_int_none Try.sortA p cap W)⟩
theorem keys_spec (mb : Option Nat) : Ctr Try.prog 27 [.map mb] (fun _ => True) [] (fun v L => ∃ B, v = .func (.func 32) #[] #[.pointer (some ⟨B, 0, none⟩)] ∧ L = [blk B [.map mb] 49]) := by
  refine ⟨⟨_, Try.func27, by kernel_rfl, by kernel_rfl⟩, fun F w _ hs => ?_⟩
  have h : CallsIn Fence.wide 5 Try.prog 27 #[.map mb] w fun e w' => e = .returned (.func (.func 32) #[] #[.pointer (some ⟨w.heap.size, 0, none⟩)]) ∧ w' = w.alloc (.cells #[.map mb] 49) := AnyZI.keys_in Try.keysA Fence.wide 5 trivial rfl mb w
  refine ((callsIn_wide (n := 5)).1 h).mono ?_
  rintro e w' ⟨rfl, rfl⟩
  exact ⟨_, _, rfl, ⟨_, rfl, rfl⟩, hs.alloc (by simp [blk, Hp.one])⟩
theorem intKeys_map {H : Type} (l : List (Lit × DataW H)) : intKeys (.map l) = l.map fun p => Go.intOf p.1 := rfl
theorem asc_eq {xs ys : List Int} (hx : xs.Pairwise (· < ·)) (hy : ys.Pairwise (· < ·)) (h : ∀ k, k ∈ xs ↔ k ∈ ys) : xs = ys := by
  have nx : xs.Nodup := hx.imp fun h e => by omega
  have ny : ys.Nodup := hy.imp fun h e => by omega
  have hp : xs.Perm ys := (List.perm_ext_iff_of_nodup nx ny).2 h
  exact hp.eq_of_pairwise (le := (· < ·)) (fun a b _ _ h1 h2 => by omega) hx hy
section
variable {β : Type} {eV : β → Value} {K : Kk Try.prog 3 Int}
abbrev rdU : Value → Option (DataW Unit × List MemPlace) := fun _ => some (.nil, [])
theorem mp_owns {l : List (Int × β)} {es : Array MapEntry} {clock : Nat} {f : Int → Option β} {w : World} {b : Nat} (hK : ∀ x, K.eK x = .int .i64 x) (hok : ∀ x, K.ok x → IntKind.i64.min ≤ x ∧ x ≤ IntKind.i64.max) (m : MpOk K eV f l es clock) (hb : w.heap[b]? = some (.map es clock)) (hn : l.length ≤ maxLen) :
    ∃ D0 : DataW Unit, w.ownsMap Try.prog 3 rdU b l.length D0 ∧ (intKeys D0).Perm (l.map Prod.fst) ∧ Maps.size D0 = l.length := by
  have hes : es.size = l.length := by
    have := congrArg List.length m.eq
    simpa using this
  have hrd : ∀ x ∈ es.toList, ∃ y : Int, x.key = .int .i64 y ∧ WideElems.rd (H := Unit) Try.prog 3 rdU x = some (.int .i64 y, .nil) := fun x hx => by
    obtain ⟨y, hy, hxy⟩ := m.keys x hx
    rw [hK] at hxy
    refine ⟨y.1, hxy, ?_⟩
    have hw := hok _ (m.ok y hy)
    unfold WideElems.rd
    rw [hxy]
    have hw1 : -9223372036854775808 ≤ y.1 := hw.1
    have hw2 : y.1 ≤ 9223372036854775807 := hw.2
    simp [keyOf, mapKey, Try.underlying3, Lit.wf, hw, hw1, hw2]
  have hkeys : es.toList.map (fun x => Go.intOf (WideElems.rg (H := Unit) Try.prog 3 rdU x).1) = l.map Prod.fst := by
    have h1 : es.toList.map (fun e => e.key) = l.map fun x => Value.int .i64 x.1 := by
      have := congrArg (List.map Prod.fst) m.eq
      simpa [List.map_map, Function.comp_def, hK] using this
    refine (List.map_inj_right (f := Value.int .i64) (fun a b h => by cases h; rfl)).1 ?_
    rw [List.map_map, List.map_map]
    refine Eq.trans ?_ (h1.trans (by rfl))
    refine List.map_congr_left fun x hx => ?_
    obtain ⟨y, h2, h3⟩ := hrd x hx
    show Value.int .i64 (Go.intOf ((WideElems.rd (H := Unit) Try.prog 3 rdU x).getD (.bool false, .nil)).1) = x.key
    rw [h3, h2]; rfl
  refine ⟨_, ⟨es, clock, hb, ⟨by rw [hes]; exact hn, m.st, fun x hx => ?_⟩, by rw [hes]; exact Nat.le_refl _, rfl⟩, ?_, ?_⟩
  · obtain ⟨y, _, h3⟩ := hrd x hx; exact ⟨_, h3⟩
  · rw [intKeys_map]
    refine ((WideShapes.sorted_perm _).map _).trans ?_
    rw [List.map_map]
    exact List.Perm.of_eq hkeys
  · show ((es.toList.map _).foldr DataW.insert []).length = _
    rw [DataW.length_sorted, List.length_map, Array.length_toList, hes]
theorem sorted_spec (B b : Nat) (f : Int → Option β) (xs : List Int) (hK : ∀ x, K.eK x = .int .i64 x) (hok : ∀ x, K.ok x → IntKind.i64.min ≤ x ∧ x ≤ IntKind.i64.max) (hx : xs.Pairwise (· < ·)) (hm : ∀ k, k ∈ xs ↔ (f k).isSome = true) (hn : xs.length ≤ 1048576) :
    Ctr Try.prog 26 [.func (.func 32) #[] #[.pointer (some ⟨B, 0, none⟩)]] (fun h => blk B [.map (some b)] 49 h ∧ isMp K eV b f h) [] (fun v L => ∃ A c, v = .slice A xs.length c ∧ (A = none ↔ xs = []) ∧ L = [own encN A xs.length c xs]) := by
  refine ⟨⟨_, Try.func26, by kernel_rfl, by kernel_rfl⟩, fun F w hpre hs => ?_⟩
  obtain ⟨hB, l, es, clock, hb, m⟩ := hpre
  have hmem : ∀ k, k ∈ l.map Prod.fst ↔ k ∈ xs := fun k => by
    rw [hm, m.get]
    constructor
    · intro h
      obtain ⟨⟨k', v⟩, hx, rfl⟩ := List.mem_map.1 h
      obtain ⟨i, hi⟩ := List.getElem?_of_mem hx
      rw [alget_at m.nd hi]; rfl
    · intro h
      obtain ⟨v, hv⟩ := Option.isSome_iff_exists.1 h
      exact List.mem_map.2 ⟨_, alget_mem hv, rfl⟩
  have nx : xs.Nodup := hx.imp fun h e => by omega
  have hlen : l.length = xs.length := by
    have := ((List.perm_ext_iff_of_nodup m.nd nx).2 hmem).length_eq
    simpa using this
  have hbW : w.heap[b]? = some (.map es clock) := hs.frz _ _ hb
  have hBW : w.heap[B]? = some (.cells #[.map (some b)] 49 (0, 0)) := hs.frz _ _ hB
  obtain ⟨D0, hown, hkp, hsz⟩ := mp_owns hK hok m hbW (by rw [hlen]; exact Nat.le_trans hn (by decide))
  have hBlt : B < w.heap.size := (Array.getElem?_eq_some_iff.1 hBW).1
  have hcell : w.cell? ⟨B, 0, none⟩ = some (.map (some b)) := by
    show (match w.heap[B]? with | some (.cells c _ _) => _ | _ => none) = _
    rw [hBW]; rfl
  have hseq : SeqGives Fence.wide 2 Try.prog 32 #[.pointer (some ⟨B, 0, none⟩)] encZ (fun ss => ss.Perm (intKeys D0)) (Maps.size D0) w :=
    AnyZI.keys_gives (ρ := Try.keysA_ren) { Try.keysA with } Fence.wide _ trivial rfl (by omega) B b l.length D0 w hBlt hcell hown
  have cS := AnyZI.sorted_in Try.sortedA Fence.wide 5 trivial trivial trivial trivial rfl (by omega) (sortsA _) (enters_of Try.func31 (by kernel_rfl) rfl) 32 #[.pointer (some ⟨B, 0, none⟩)] trivial (enters_of Try.func32 (by kernel_rfl) rfl) _ _ (by rw [hsz, hlen]; exact Nat.le_trans hn (by decide)) (by rw [hsz, hlen]; omega) _ hseq
  change CallsIn _ _ Try.prog 26 _ _ _ at cS
  refine ((callsIn_wide (n := 5)).1 cS).mono ?_
  rintro e w' ⟨v, ss, rfl, hS, hrow, hnil, hbel⟩
  have hmem2 : ∀ k, k ∈ ss.mergeSort (fun x y => decide (x ≤ y)) ↔ k ∈ xs := fun k => by
    rw [List.mem_mergeSort, hS.mem_iff, hkp.mem_iff, hmem]
  have hnd2 : ss.Nodup := (hS.trans hkp).nodup_iff.2 m.nd
  have hsorted : (ss.mergeSort fun x y => decide (x ≤ y)).Pairwise (· ≤ ·) := by
    have := List.pairwise_mergeSort (le := fun x y : Int => decide (x ≤ y)) (fun a b c h1 h2 => by simp at *; omega) (fun a b => by simp; omega) ss
    exact this.imp fun h => of_decide_eq_true h
  have hnd3 : (ss.mergeSort fun x y => decide (x ≤ y)).Nodup := (List.mergeSort_perm ss _).nodup_iff.2 hnd2
  have hss : ss.mergeSort (fun x y => decide (x ≤ y)) = xs := by
    refine asc_eq ?_ hx hmem2
    exact (hsorted.and hnd3).imp fun ⟨h1, h2⟩ => by omega
  have hsl : ss.length = xs.length := by rw [← hss, List.length_mergeSort]
  rw [hss, hsl] at hrow
  obtain ⟨_, hrow⟩ := hrow
  have hgrow : Hp.le (World.hp w) (World.hp w') := ⟨fun k o hk => by
    have hk : w.heap[k]? = some o := hk
    show w'.heap[k]? = some o
    rw [hbel.block k (Array.getElem?_eq_some_iff.1 hk).1]; exact hk⟩
  have hflat : ∀ ys : List Int, ys.map encZ = flat encN ys := fun ys => by
    induction ys with
    | nil => rfl
    | cons y ys ih => rw [List.map_cons, ih]; rfl
  rcases hrow with ⟨rfl, hz⟩ | ⟨g, cap, cur, rfl, hbase, hgb, r1, r2, r3, r4⟩
  · have hx0 : xs = [] := List.eq_nil_of_length_eq_zero hz
    subst hx0
    refine ⟨_, _, rfl, ⟨none, 0, rfl, by simp, rfl⟩, ?_⟩
    refine ⟨hbel.os.trans hs.os, hbel.tape.trans hs.tape, hbel.output.trans hs.output, Nat.le_trans hs.size hbel.size, hs.frz.trans hgrow, Hp.nil, ⟨fun _ _ h => by cases h⟩, ⟨fun _ => .inr rfl⟩, stars_new (own_nil encN _) trivial⟩
  · refine ⟨_, _, rfl, ⟨some ⟨g, 0, none⟩, cap, rfl, ?_, rfl⟩, ?_⟩
    · constructor
      · intro h; cases h
      · intro h
        have : ss = [] := List.eq_nil_of_length_eq_zero (by rw [hsl, h]; rfl)
        have := hnil.2 this
        cases this
    · refine ⟨hbel.os.trans hs.os, hbel.tape.trans hs.tape, hbel.output.trans hs.output, Nat.le_trans hs.size hbel.size, hs.frz.trans hgrow, Hp.one g (.cells cur 3 (0, 0)), Hp.one_le.2 hgb, ?_, ?_⟩
      · refine (Hp.one_disj.2 ?_).symm
        cases hh : F.heap g with
        | none => rfl
        | some o =>
          have := (Array.getElem?_eq_some_iff.1 (hs.frz _ _ hh)).1
          omega
      · exact ⟨_, Hp.nil, ⟨fun _ => .inr rfl⟩, Hp.le_refl _, ⟨fun _ _ h => by cases h⟩, .inr ⟨g, cur, 3, rfl, by simp [Hp.one], rfl, r1, r2, r3, by rw [← hflat]; exact r4⟩, trivial⟩
end
theorem sorted_nil (B : Nat) : Ctr Try.prog 26 [.func (.func 32) #[] #[.pointer (some ⟨B, 0, none⟩)]] (fun h => blk B [.map none] 49 h) [] (fun v L => v = .slice none 0 0 ∧ L = []) := by
  refine ⟨⟨_, Try.func26, by kernel_rfl, by kernel_rfl⟩, fun F w hB hs => ?_⟩
  have hBW : w.heap[B]? = some (.cells #[.map none] 49 (0, 0)) := hs.frz _ _ hB
  have hBlt : B < w.heap.size := (Array.getElem?_eq_some_iff.1 hBW).1
  have hcell : w.cell? ⟨B, 0, none⟩ = some (.map none) := by
    show (match w.heap[B]? with | some (.cells c _ _) => _ | _ => none) = _
    rw [hBW]; rfl
  have hseq : SeqGives Fence.wide 2 Try.prog 32 #[.pointer (some ⟨B, 0, none⟩)] encZ (fun ss : List Int => ss = []) 0 w :=
    AnyZI.keys_gives_nil (ρ := Try.keysA_ren) { Try.keysA with } Fence.wide _ trivial rfl B w hBlt hcell
  have cS := AnyZI.sorted_in Try.sortedA Fence.wide 5 trivial trivial trivial trivial rfl (by omega) (sortsA _) (enters_of Try.func31 (by kernel_rfl) rfl) 32 #[.pointer (some ⟨B, 0, none⟩)] trivial (enters_of Try.func32 (by kernel_rfl) rfl) _ 0 (Nat.zero_le _) (by omega) _ hseq
  change CallsIn _ _ Try.prog 26 _ _ _ at cS
  refine ((callsIn_wide (n := 5)).1 cS).mono ?_
  rintro e w' ⟨v, ss, rfl, rfl, hrow, hnil, hbel⟩
  obtain rfl : v = .slice none 0 0 := hnil.2 rfl
  have hgrow : Hp.le (World.hp w) (World.hp w') := ⟨fun k o hk => by
    have hk : w.heap[k]? = some o := hk
    show w'.heap[k]? = some o
    rw [hbel.block k (Array.getElem?_eq_some_iff.1 hk).1]; exact hk⟩
  exact ⟨_, _, rfl, ⟨rfl, rfl⟩, hbel.os.trans hs.os, hbel.tape.trans hs.tape, hbel.output.trans hs.output, Nat.le_trans hs.size hbel.size, hs.frz.trans hgrow, Hp.nil, ⟨fun _ _ h => by cases h⟩, ⟨fun _ => .inr rfl⟩, trivial⟩
end Go.Proofs.Ytmegelkbipgjbaa
