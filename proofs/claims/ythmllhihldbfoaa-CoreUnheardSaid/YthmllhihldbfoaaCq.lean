/- CoreColours, plain: lines in sets of their colours; told once each. -/
import Derived.Test.YthmllhihldbfoaaCg
set_option linter.unusedVariables false
namespace Go.Proofs.Ythmllhihldbfoaa
open Go.RowKit Go.Cof

theorem xor7 {x : Int} (h0 : 0 ≤ x) (h1 : x < 1048576) : 0 ≤ bits .xor .u64 x 7 ∧ bits .xor .u64 x 7 / 16 = x / 16 := by
  obtain ⟨n, rfl⟩ := Int.eq_ofNat_of_zero_le h0
  have hn : n < 18446744073709551616 := by omega
  have hx : (n ^^^ 7) >>> 4 = n >>> 4 := by rw [Nat.shiftRight_xor_distrib]; exact Nat.xor_zero _
  rw [Nat.shiftRight_eq_div_pow, Nat.shiftRight_eq_div_pow] at hx
  replace hx : (n ^^^ 7) / 16 = n / 16 := hx
  have hb : bits .xor .u64 (n : Int) 7 = ((n ^^^ 7 : Nat) : Int) := by
    show IntKind.u64.wrap (((BitVec.ofInt 64 (n : Int) ^^^ BitVec.ofInt 64 ((7 : Nat) : Int)).toNat : Nat) : Int) = _
    rw [BitVec.toNat_xor, nat_ofInt hn, nat_ofInt (by omega), wrap_u64 (by omega) (by omega)]
  rw [hb]
  constructor
  · omega
  · have := congrArg (fun a : Nat => (a : Int)) hx
    simpa using this
/-- Each line stands in a set of its frame's colour. -/
def Good (d : Pl.Cd) (s : List (List Int)) : Prop := ∀ (j : Nat), j < s.length → ∀ t ∈ Cof.get s (j : Int), 0 ≤ t ∧ t < d.fr * 16 ∧ (j : Int) = t / 16 % d.co * 16 + t % 16
theorem Good.rep (d : Pl.Cd) (n : Nat) : Good d (List.replicate n []) := fun j hj t ht => by rw [get_rep] at ht; cases ht
theorem Good.put {d : Pl.Cd} {s : List (List Int)} {pa : Int} (h : Good d s) (hm : Pl.MachP d) (hl : s.length = (d.co * 16).toNat) (h0 : 0 ≤ pa) (h1 : pa < d.fr * 256) : Good d (put2 d s pa) := by
  intro j hj t ht
  obtain ⟨b1, b2⟩ := k2_rng hm h0
  unfold put2 at hj ht
  rw [List.length_set] at hj
  rw [getI_set b1 (by rw [hl]; exact b2) (by omega)] at ht
  split at ht
  · rename_i e
    rcases touchF_mem ht with rfl | ht
    · refine ⟨by omega, by omega, ?_⟩
      rw [← e]
      unfold k2 setF
      have e1 : pa / 16 / 16 = pa / 256 := by omega
      have e2 : pa / 16 % 16 = pa % 256 / 16 := by omega
      rw [e1, e2]
    · rw [e] at ht; exact h j hj t ht
  · exact h j hj t ht
/-! lines are told once each -/
theorem linesTo_fst {s : List (List Int)} : ∀ {i : Nat} {x : Int × Int}, x ∈ linesTo s i → ∃ j : Nat, j < i ∧ x.1 = j ∧ x.2 ∈ Cof.get s (j : Int)
  | 0, x, h => by cases h
  | i + 1, x, h => by
    rw [linesTo] at h
    rcases List.mem_append.1 h with h | h
    · obtain ⟨j, h1, h2, h3⟩ := linesTo_fst h
      exact ⟨j, by omega, h2, h3⟩
    · obtain ⟨t, ht, rfl⟩ := List.mem_map.1 h
      exact ⟨i, by omega, rfl, ht⟩
theorem linesTo_nd {n w : Nat} {s : List (List Int)} (h : CaOk n w s) : ∀ i : Nat, i ≤ n → (linesTo s i).Nodup
  | 0, _ => List.nodup_nil
  | i + 1, hi => by
    rw [linesTo]
    refine List.nodup_append.2 ⟨linesTo_nd h i (by omega), ?_, fun a ha b hb e => ?_⟩
    · refine List.pairwise_map.2 ((h.nd i (by omega)).imp fun hne e => hne ?_)
      exact (Prod.mk.inj e).2
    · obtain ⟨j, h1, h2, _⟩ := linesTo_fst ha
      obtain ⟨t, _, rfl⟩ := List.mem_map.1 hb
      rw [e] at h2
      replace h2 : (i : Int) = j := h2
      omega
theorem linesTo_le {n w : Nat} {s : List (List Int)} (h : CaOk n w s) : ∀ i : Nat, i ≤ n → (linesTo s i).length ≤ i * w
  | 0, _ => Nat.zero_le _
  | i + 1, hi => by
    have h1 := linesTo_le h i (by omega)
    have h2 := h.le i (by omega)
    rw [linesTo, List.length_append, List.length_map, Nat.add_mul, Nat.one_mul]; omega
theorem nd_ne {l : List (Int × Int)} (h : l.Nodup) {i : Nat} (h0 : 0 < i) (h1 : i < l.length) : Cof.get l (i : Int) ≠ Cof.get l ((i : Int) - 1) := by
  rw [show (i : Int) - 1 = ((i - 1 : Nat) : Int) by omega, get_getElem h1, get_getElem (by omega)]
  intro e
  have := (List.nodup_iff_pairwise_ne.1 h)
  have h2 := List.pairwise_iff_getElem.1 this (i - 1) i (by omega) h1 (by omega)
  exact h2 e.symm
theorem isCo_ok {h : Nat} {d : Pl.Cd} {x : Co} {ts : List Tl.Tr} {g : Hp} (hs : isCo h d x ts g) : CaOk d.ls.toNat d.lw.toNat x.s1 ∧ CaOk (d.co * 16).toNat d.wa.toNat x.s2 := by
  obtain ⟨y, hs⟩ := hs
  obtain ⟨_, _, h1⟩ := at_mem 1 rfl hs
  obtain ⟨_, _, h2⟩ := at_mem 2 rfl hs
  exact ⟨isCa_cnt h1, isCa_cnt h2⟩
theorem eqLn : EqE Try.prog Tt 45 encLn := EqE.ofT tt_ok [45] (by decide +kernel) (by kernel_rfl) 3 rfl fun a b => by
  show some (decide (a.1 = b.1) && (decide (a.2 = b.2) && true)) = _
  refine congrArg some ?_
  obtain ⟨a1, a2⟩ := a
  obtain ⟨b1, b2⟩ := b
  by_cases h1 : a1 = b1 <;> by_cases h2 : a2 = b2 <;> simp [h1, h2]
/-- touched at once again: in L1 -/
theorem again_hit {d : Pl.Cd} {x : Co} {pa pb : Int} (hm : Pl.MachP d) (h0 : 0 ≤ pa) (hb : pb / 16 = pa / 16) (hl : x.s1.length = d.ls.toNat) {sp : Int} {s2 : List (List Int)} : hit1 d ⟨put1 d x.s1 pa, s2, sp⟩ pb = true := by
  obtain ⟨a1, a2⟩ := k1_rng hm h0
  have hk : k1 d pb = k1 d pa := by unfold k1; rw [hb]
  unfold hit1
  rw [hk, hb]
  refine decide_eq_true ?_
  show pa / 16 ∈ Cof.get (put1 d x.s1 pa) (k1 d pa)
  unfold put1
  rw [getI_set a1 (by rw [hl]; exact a2) a1, if_pos rfl]
  exact List.mem_cons_self
end Go.Proofs.Ythmllhihldbfoaa
