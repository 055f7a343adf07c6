/- SpaceKnown: regions 3 to 9. -/
import Derived.Test.YtalkcemelegohaaKa
import Derived.Test.YtalkcemelegohaaPs
import Derived.Test.YtalkcemelegohaaLe
import Derived.Test.YtalkcemelegohaaPu
import Derived.Test.YtalkcemelegohaaKe
import Derived.Test.YtalkcemelegohaaSlZf
set_option linter.unusedVariables false
set_option maxRecDepth 100000
namespace Go.Proofs.Ytalkcemelegohaa
open Go.RowKit Go.Cof
open Vm (Rg encRg rgV)
-- refine Ctr.intro Try.func8 rfl rfl (by decide +kernel) fun F hpre => ?_

section
variable {F : Frz} {K : Exit → Act → World → Prop}
def svsL (b0 q b3 b6 b11 b14 b17 b22 b24 : Nat) : List Sv := [⟨some ⟨b0, 0, none⟩, 2, 2, fourL, 4⟩, ⟨some ⟨q, 0, none⟩, 2, 2, fourL, 3⟩, ⟨some ⟨b3, 0, none⟩, 1, 1, [⟨524288, 1, 1⟩], 1⟩, ⟨some ⟨b6, 0, none⟩, 1, 1, [⟨524287, 5, 3⟩], 4⟩, ⟨none, 0, 0, [], 0⟩, ⟨none, 0, 0, [], 1⟩, ⟨some ⟨b11, 0, none⟩, 1, 1, [⟨524289, 1, 3⟩], 2⟩, ⟨some ⟨b14, 0, none⟩, 1, 1, [⟨524288, 1024, 3⟩], 1024⟩, ⟨some ⟨b17, 0, none⟩, 1, 1, [⟨524288, 1025, 3⟩], 1025⟩, ⟨none, 0, 0, [], -1⟩, ⟨some ⟨b22, 0, none⟩, 2, 2, [⟨524288, 2, 3⟩, ⟨524297, 1, 1⟩], 2⟩, ⟨some ⟨b24, 0, none⟩, 1025, 1025, List.replicate 1025 ⟨0, 0, 0⟩, 0⟩]
abbrev errL : List Int := [0, 2, 2, 0, 0, 2, 2, 0, 2, 2, 2, 3]
def keysL : List Key := [(fourL, 4), (fourL, 3), ([⟨524288, 1, 1⟩], 1), ([⟨524287, 5, 3⟩], 4), ([], 0), ([], 1), ([⟨524289, 1, 3⟩], 2), ([⟨524288, 1024, 3⟩], 1024), ([⟨524288, 1025, 3⟩], 1025), ([], -1), ([⟨524288, 2, 3⟩, ⟨524297, 1, 1⟩], 2)]
theorem k_keys : ∀ i : Fin 11, errL.take (i.1 + 1) = errL.take i.1 ++ [scheck (Cof.get keysL (i.1 : Int)).1 (Cof.get keysL (i.1 : Int)).2] := by decide +kernel
theorem k_many : scheck (List.replicate 1025 ⟨0, 0, 0⟩) 0 = 3 := by
  have hc : Vm.checkE (List.replicate 1025 ⟨0, 0, 0⟩) = 3 := by unfold Vm.checkE; rw [if_pos (by rw [List.length_replicate]; decide)]
  unfold scheck
  rw [hc, if_pos (by decide)]
theorem k_chk (b0 q b3 b6 b11 b14 b17 b22 b24 : Nat) {i : Nat} (hi : i < 12) : errL.take (i + 1) = errL.take i ++ [scheck (Cof.get (svsL b0 q b3 b6 b11 b14 b17 b22 b24) (i : Int)).l (Cof.get (svsL b0 q b3 b6 b11 b14 b17 b22 b24) (i : Int)).h] := by
  match i, hi with
  | 0, _ => exact k_keys ⟨0, by decide⟩
  | 1, _ => exact k_keys ⟨1, by decide⟩
  | 2, _ => exact k_keys ⟨2, by decide⟩
  | 3, _ => exact k_keys ⟨3, by decide⟩
  | 4, _ => exact k_keys ⟨4, by decide⟩
  | 5, _ => exact k_keys ⟨5, by decide⟩
  | 6, _ => exact k_keys ⟨6, by decide⟩
  | 7, _ => exact k_keys ⟨7, by decide⟩
  | 8, _ => exact k_keys ⟨8, by decide⟩
  | 9, _ => exact k_keys ⟨9, by decide⟩
  | 10, _ => exact k_keys ⟨10, by decide⟩
  | 11, _ => show errL = List.take 11 errL ++ [scheck (List.replicate 1025 ⟨0, 0, 0⟩) 0]; rw [k_many]; rfl
  | n + 12, h => omega
theorem in_one {r : Rg} (h : r.In) : ∀ x ∈ [r], x.In := fun x hx => by obtain rfl := List.mem_singleton.1 hx; exact h
theorem svsL_ok (b0 q b3 b6 b11 b14 b17 b22 b24 : Nat) : ∀ s ∈ svsL b0 q b3 b6 b11 b14 b17 b22 b24, s.Ok := by
  intro s hs'
  unfold svsL at hs'
  rcases List.mem_cons.1 hs' with rfl | hs'
  · exact sv_ok _ _
  rcases List.mem_cons.1 hs' with rfl | hs'
  · exact sv_ok _ _
  rcases List.mem_cons.1 hs' with rfl | hs'
  · exact ⟨rfl, by show 1 ≤ 5864062014634; decide, Nat.le_refl _, in_one ⟨by decide, by decide, by decide⟩⟩
  rcases List.mem_cons.1 hs' with rfl | hs'
  · exact ⟨rfl, by show 1 ≤ 5864062014634; decide, Nat.le_refl _, in_one ⟨by decide, by decide, by decide⟩⟩
  rcases List.mem_cons.1 hs' with rfl | hs'
  · exact ⟨rfl, by show 0 ≤ 5864062014634; decide, Nat.le_refl _, fun r hr => by cases hr⟩
  rcases List.mem_cons.1 hs' with rfl | hs'
  · exact ⟨rfl, by show 0 ≤ 5864062014634; decide, Nat.le_refl _, fun r hr => by cases hr⟩
  rcases List.mem_cons.1 hs' with rfl | hs'
  · exact ⟨rfl, by show 1 ≤ 5864062014634; decide, Nat.le_refl _, in_one ⟨by decide, by decide, by decide⟩⟩
  rcases List.mem_cons.1 hs' with rfl | hs'
  · exact ⟨rfl, by show 1 ≤ 5864062014634; decide, Nat.le_refl _, in_one ⟨by decide, by decide, by decide⟩⟩
  rcases List.mem_cons.1 hs' with rfl | hs'
  · exact ⟨rfl, by show 1 ≤ 5864062014634; decide, Nat.le_refl _, in_one ⟨by decide, by decide, by decide⟩⟩
  rcases List.mem_cons.1 hs' with rfl | hs'
  · exact ⟨rfl, by show 0 ≤ 5864062014634; decide, Nat.le_refl _, fun r hr => by cases hr⟩
  rcases List.mem_cons.1 hs' with rfl | hs'
  · exact ⟨rfl, by show 2 ≤ 5864062014634; decide, Nat.le_refl _, fun r hr => by
      rcases List.mem_cons.1 hr with rfl | hr
      · exact ⟨by decide, by decide, by decide⟩
      · exact in_one (r := ⟨524297, 1, 1⟩) ⟨by decide, by decide, by decide⟩ _ hr⟩
  · obtain rfl := List.mem_singleton.1 hs'
    exact ⟨(List.length_replicate ..).symm, by show 1025 ≤ 5864062014634; decide, Nat.le_refl _, fun r hr => by rw [(List.mem_replicate.1 hr).2]; exact ⟨by decide, by decide, by decide⟩⟩
theorem svsL_rd (b0 q b3 b6 b11 b14 b17 b22 b24 : Nat) {h : Hp} (hs : stars [own encRg (some ⟨b0, 0, none⟩) 2 2 fourL, blk b3 [iV 524288, iV 1, bV 1] 73, blk b6 [iV 524287, iV 5, bV 3] 73, blk b11 [iV 524289, iV 1, bV 3] 73, blk b14 [iV 524288, iV 1024, bV 3] 73, blk b17 [iV 524288, iV 1025, bV 3] 73, blk b22 [iV 524288, iV 2, bV 3, iV 524297, iV 1, bV 1] 73, own encRg (some ⟨b24, 0, none⟩) 1025 1025 (List.replicate 1025 ⟨0, 0, 0⟩), own encRg (some ⟨q, 0, none⟩) 2 2 fourL] h) : ∀ s ∈ svsL b0 q b3 b6 b11 b14 b17 b22 b24, rdS encRg h s.A s.m s.l := by
  intro s hs'
  unfold svsL at hs'
  rcases List.mem_cons.1 hs' with rfl | hs'
  · exact rd_at 0 rfl hs
  rcases List.mem_cons.1 hs' with rfl | hs'
  · exact rd_at 8 rfl hs
  rcases List.mem_cons.1 hs' with rfl | hs'
  · exact blk_rdS (blk_at 1 rfl hs) rfl rfl
  rcases List.mem_cons.1 hs' with rfl | hs'
  · exact blk_rdS (blk_at 2 rfl hs) rfl rfl
  rcases List.mem_cons.1 hs' with rfl | hs'
  · exact rdS.nil _ _ _
  rcases List.mem_cons.1 hs' with rfl | hs'
  · exact rdS.nil _ _ _
  rcases List.mem_cons.1 hs' with rfl | hs'
  · exact blk_rdS (blk_at 3 rfl hs) rfl rfl
  rcases List.mem_cons.1 hs' with rfl | hs'
  · exact blk_rdS (blk_at 4 rfl hs) rfl rfl
  rcases List.mem_cons.1 hs' with rfl | hs'
  · exact blk_rdS (blk_at 5 rfl hs) rfl rfl
  rcases List.mem_cons.1 hs' with rfl | hs'
  · exact rdS.nil _ _ _
  rcases List.mem_cons.1 hs' with rfl | hs'
  · exact blk_rdS (blk_at 6 rfl hs) rfl rfl
  · obtain rfl := List.mem_singleton.1 hs'
    exact rd_at 7 rfl hs
def rel4 (q : Nat) : Nat → Rho → Prop
  | 0, ρ => ∃ q', (ρ 0) = (spc q' 2 4, [own encRg (some ⟨q', 0, none⟩) 2 2 fourL])
  | 1, ρ => (ρ 1) = (spc q 2 3, [])
  | 2, ρ => (ρ 2) = (.agg #[iV 524288, iV 1, bV 1], [])
  | 3, ρ => ∃ b, (ρ 3) = (.slice (some ⟨b, 0, none⟩) 1 1, [blk b [iV 524288, iV 1, bV 1] 73])
  | 4, ρ => ∃ b, (ρ 4) = (spc b 1 1, []) ∧ ((ρ 3)).1 = .slice (some ⟨b, 0, none⟩) 1 1
  | 5, ρ => (ρ 5) = (.agg #[iV 524287, iV 5, bV 3], [])
  | 6, ρ => ∃ b, (ρ 6) = (.slice (some ⟨b, 0, none⟩) 1 1, [blk b [iV 524287, iV 5, bV 3] 73])
  | 7, ρ => ∃ b, (ρ 7) = (spc b 1 4, []) ∧ ((ρ 6)).1 = .slice (some ⟨b, 0, none⟩) 1 1
  | 8, ρ => (ρ 8) = (.agg #[.slice none 0 0, iV 0], [])
  | 9, ρ => (ρ 9) = (.agg #[.slice none 0 0, iV 1], [])
  | 10, ρ => (ρ 10) = (.agg #[iV 524289, iV 1, bV 3], [])
  | 11, ρ => ∃ b, (ρ 11) = (.slice (some ⟨b, 0, none⟩) 1 1, [blk b [iV 524289, iV 1, bV 3] 73])
  | 12, ρ => ∃ b, (ρ 12) = (spc b 1 2, []) ∧ ((ρ 11)).1 = .slice (some ⟨b, 0, none⟩) 1 1
  | 13, ρ => (ρ 13) = (.agg #[iV 524288, iV 1024, bV 3], [])
  | 14, ρ => ∃ b, (ρ 14) = (.slice (some ⟨b, 0, none⟩) 1 1, [blk b [iV 524288, iV 1024, bV 3] 73])
  | 15, ρ => ∃ b, (ρ 15) = (spc b 1 1024, []) ∧ ((ρ 14)).1 = .slice (some ⟨b, 0, none⟩) 1 1
  | 16, ρ => (ρ 16) = (.agg #[iV 524288, iV 1025, bV 3], [])
  | 17, ρ => ∃ b, (ρ 17) = (.slice (some ⟨b, 0, none⟩) 1 1, [blk b [iV 524288, iV 1025, bV 3] 73])
  | 18, ρ => ∃ b, (ρ 18) = (spc b 1 1025, []) ∧ ((ρ 17)).1 = .slice (some ⟨b, 0, none⟩) 1 1
  | 19, ρ => (ρ 19) = (.agg #[.slice none 0 0, iV (-1)], [])
  | 20, ρ => (ρ 20) = (.agg #[iV 524288, iV 2, bV 3], [])
  | 21, ρ => (ρ 21) = (.agg #[iV 524297, iV 1, bV 1], [])
  | 22, ρ => ∃ b, (ρ 22) = (.slice (some ⟨b, 0, none⟩) 2 2, [blk b [iV 524288, iV 2, bV 3, iV 524297, iV 1, bV 1] 73])
  | 23, ρ => ∃ b, (ρ 23) = (spc b 2 2, []) ∧ ((ρ 22)).1 = .slice (some ⟨b, 0, none⟩) 2 2
  | 24, ρ => ∃ b, (ρ 24) = (.slice (some ⟨b, 0, none⟩) 1025 1025, [own encRg (some ⟨b, 0, none⟩) 1025 1025 (List.replicate 1025 ⟨0, 0, 0⟩)])
  | 25, ρ => ∃ b, (ρ 25) = (spc b 1025 0, []) ∧ ((ρ 24)).1 = .slice (some ⟨b, 0, none⟩) 1025 1025
  | 26, ρ => ∃ b c0 c4 c7 c12 c15 c18 c23 c25, (ρ 26) = (.slice (some ⟨b, 0, none⟩) 12 12, [blk b [.slice (some ⟨c0, 0, none⟩) 2 2, iV 4, .slice (some ⟨q, 0, none⟩) 2 2, iV 3, .slice (some ⟨c4, 0, none⟩) 1 1, iV 1, .slice (some ⟨c7, 0, none⟩) 1 1, iV 4, .slice none 0 0, iV 0, .slice none 0 0, iV 1, .slice (some ⟨c12, 0, none⟩) 1 1, iV 2, .slice (some ⟨c15, 0, none⟩) 1 1, iV 1024, .slice (some ⟨c18, 0, none⟩) 1 1, iV 1025, .slice none 0 0, iV (-1), .slice (some ⟨c23, 0, none⟩) 2 2, iV 2, .slice (some ⟨c25, 0, none⟩) 1025 1025, iV 0] 24]) ∧ ((ρ 0)).1 = spc c0 2 4 ∧ ((ρ 4)).1 = spc c4 1 1 ∧ ((ρ 7)).1 = spc c7 1 4 ∧ ((ρ 12)).1 = spc c12 1 2 ∧ ((ρ 15)).1 = spc c15 1 1024 ∧ ((ρ 18)).1 = spc c18 1 1025 ∧ ((ρ 23)).1 = spc c23 2 2 ∧ ((ρ 25)).1 = spc c25 1025 0
  | 27, ρ => (ρ 27) = (iV 12, [])
  | _, ρ => (ρ 28) = (iV 0, [])
abbrev ds4 : List (List Nat) := [[], [], [], [2], [3], [], [5], [6], [], [], [], [10], [11], [], [13], [14], [], [16], [17], [], [], [], [20, 21], [22], [], [24], [0, 1, 4, 7, 8, 9, 12, 15, 18, 19, 23, 25], [26], []]
abbrev us4 : List (Option Nat) := [none, none, none, none, none, none, none, none, none, none, none, none, none, none, none, none, none, none, none, none, none, none, none, none, none, none, none, none, none]
theorem loc4 (q : Nat) : Local (JJ ds4 us4 (rel4 q)) 29 := by
  intro j hj k ρ y hk hd hu h
  match j, hj with
  | 0, _ =>
    show ∃ q', (upd ρ k y 0) = (spc q' 2 4, [own encRg (some ⟨q', 0, none⟩) 2 2 fourL])
    rw [upd_of hk]; exact h
  | 1, _ =>
    show (upd ρ k y 1) = (spc q 2 3, [])
    rw [upd_of hk]; exact h
  | 2, _ =>
    show (upd ρ k y 2) = (.agg #[iV 524288, iV 1, bV 1], [])
    rw [upd_of hk]; exact h
  | 3, _ =>
    show ∃ b, (upd ρ k y 3) = (.slice (some ⟨b, 0, none⟩) 1 1, [blk b [iV 524288, iV 1, bV 1] 73])
    rw [upd_of hk]; exact h
  | 4, _ =>
    have q3 : k ≠ 3 := fun e => hd (by subst e; show 3 ∈ [3]; simp)
    show ∃ b, (upd ρ k y 4) = (spc b 1 1, []) ∧ ((upd ρ k y 3)).1 = .slice (some ⟨b, 0, none⟩) 1 1
    rw [upd_of hk, upd_of q3]; exact h
  | 5, _ =>
    show (upd ρ k y 5) = (.agg #[iV 524287, iV 5, bV 3], [])
    rw [upd_of hk]; exact h
  | 6, _ =>
    show ∃ b, (upd ρ k y 6) = (.slice (some ⟨b, 0, none⟩) 1 1, [blk b [iV 524287, iV 5, bV 3] 73])
    rw [upd_of hk]; exact h
  | 7, _ =>
    have q6 : k ≠ 6 := fun e => hd (by subst e; show 6 ∈ [6]; simp)
    show ∃ b, (upd ρ k y 7) = (spc b 1 4, []) ∧ ((upd ρ k y 6)).1 = .slice (some ⟨b, 0, none⟩) 1 1
    rw [upd_of hk, upd_of q6]; exact h
  | 8, _ =>
    show (upd ρ k y 8) = (.agg #[.slice none 0 0, iV 0], [])
    rw [upd_of hk]; exact h
  | 9, _ =>
    show (upd ρ k y 9) = (.agg #[.slice none 0 0, iV 1], [])
    rw [upd_of hk]; exact h
  | 10, _ =>
    show (upd ρ k y 10) = (.agg #[iV 524289, iV 1, bV 3], [])
    rw [upd_of hk]; exact h
  | 11, _ =>
    show ∃ b, (upd ρ k y 11) = (.slice (some ⟨b, 0, none⟩) 1 1, [blk b [iV 524289, iV 1, bV 3] 73])
    rw [upd_of hk]; exact h
  | 12, _ =>
    have q11 : k ≠ 11 := fun e => hd (by subst e; show 11 ∈ [11]; simp)
    show ∃ b, (upd ρ k y 12) = (spc b 1 2, []) ∧ ((upd ρ k y 11)).1 = .slice (some ⟨b, 0, none⟩) 1 1
    rw [upd_of hk, upd_of q11]; exact h
  | 13, _ =>
    show (upd ρ k y 13) = (.agg #[iV 524288, iV 1024, bV 3], [])
    rw [upd_of hk]; exact h
  | 14, _ =>
    show ∃ b, (upd ρ k y 14) = (.slice (some ⟨b, 0, none⟩) 1 1, [blk b [iV 524288, iV 1024, bV 3] 73])
    rw [upd_of hk]; exact h
  | 15, _ =>
    have q14 : k ≠ 14 := fun e => hd (by subst e; show 14 ∈ [14]; simp)
    show ∃ b, (upd ρ k y 15) = (spc b 1 1024, []) ∧ ((upd ρ k y 14)).1 = .slice (some ⟨b, 0, none⟩) 1 1
    rw [upd_of hk, upd_of q14]; exact h
  | 16, _ =>
    show (upd ρ k y 16) = (.agg #[iV 524288, iV 1025, bV 3], [])
    rw [upd_of hk]; exact h
  | 17, _ =>
    show ∃ b, (upd ρ k y 17) = (.slice (some ⟨b, 0, none⟩) 1 1, [blk b [iV 524288, iV 1025, bV 3] 73])
    rw [upd_of hk]; exact h
  | 18, _ =>
    have q17 : k ≠ 17 := fun e => hd (by subst e; show 17 ∈ [17]; simp)
    show ∃ b, (upd ρ k y 18) = (spc b 1 1025, []) ∧ ((upd ρ k y 17)).1 = .slice (some ⟨b, 0, none⟩) 1 1
    rw [upd_of hk, upd_of q17]; exact h
  | 19, _ =>
    show (upd ρ k y 19) = (.agg #[.slice none 0 0, iV (-1)], [])
    rw [upd_of hk]; exact h
  | 20, _ =>
    show (upd ρ k y 20) = (.agg #[iV 524288, iV 2, bV 3], [])
    rw [upd_of hk]; exact h
  | 21, _ =>
    show (upd ρ k y 21) = (.agg #[iV 524297, iV 1, bV 1], [])
    rw [upd_of hk]; exact h
  | 22, _ =>
    show ∃ b, (upd ρ k y 22) = (.slice (some ⟨b, 0, none⟩) 2 2, [blk b [iV 524288, iV 2, bV 3, iV 524297, iV 1, bV 1] 73])
    rw [upd_of hk]; exact h
  | 23, _ =>
    have q22 : k ≠ 22 := fun e => hd (by subst e; show 22 ∈ [22]; simp)
    show ∃ b, (upd ρ k y 23) = (spc b 2 2, []) ∧ ((upd ρ k y 22)).1 = .slice (some ⟨b, 0, none⟩) 2 2
    rw [upd_of hk, upd_of q22]; exact h
  | 24, _ =>
    show ∃ b, (upd ρ k y 24) = (.slice (some ⟨b, 0, none⟩) 1025 1025, [own encRg (some ⟨b, 0, none⟩) 1025 1025 (List.replicate 1025 ⟨0, 0, 0⟩)])
    rw [upd_of hk]; exact h
  | 25, _ =>
    have q24 : k ≠ 24 := fun e => hd (by subst e; show 24 ∈ [24]; simp)
    show ∃ b, (upd ρ k y 25) = (spc b 1025 0, []) ∧ ((upd ρ k y 24)).1 = .slice (some ⟨b, 0, none⟩) 1025 1025
    rw [upd_of hk, upd_of q24]; exact h
  | 26, _ =>
    have q0 : k ≠ 0 := fun e => hd (by subst e; show 0 ∈ [0, 1, 4, 7, 8, 9, 12, 15, 18, 19, 23, 25]; simp)
    have q4 : k ≠ 4 := fun e => hd (by subst e; show 4 ∈ [0, 1, 4, 7, 8, 9, 12, 15, 18, 19, 23, 25]; simp)
    have q7 : k ≠ 7 := fun e => hd (by subst e; show 7 ∈ [0, 1, 4, 7, 8, 9, 12, 15, 18, 19, 23, 25]; simp)
    have q12 : k ≠ 12 := fun e => hd (by subst e; show 12 ∈ [0, 1, 4, 7, 8, 9, 12, 15, 18, 19, 23, 25]; simp)
    have q15 : k ≠ 15 := fun e => hd (by subst e; show 15 ∈ [0, 1, 4, 7, 8, 9, 12, 15, 18, 19, 23, 25]; simp)
    have q18 : k ≠ 18 := fun e => hd (by subst e; show 18 ∈ [0, 1, 4, 7, 8, 9, 12, 15, 18, 19, 23, 25]; simp)
    have q23 : k ≠ 23 := fun e => hd (by subst e; show 23 ∈ [0, 1, 4, 7, 8, 9, 12, 15, 18, 19, 23, 25]; simp)
    have q25 : k ≠ 25 := fun e => hd (by subst e; show 25 ∈ [0, 1, 4, 7, 8, 9, 12, 15, 18, 19, 23, 25]; simp)
    show ∃ b c0 c4 c7 c12 c15 c18 c23 c25, (upd ρ k y 26) = (.slice (some ⟨b, 0, none⟩) 12 12, [blk b [.slice (some ⟨c0, 0, none⟩) 2 2, iV 4, .slice (some ⟨q, 0, none⟩) 2 2, iV 3, .slice (some ⟨c4, 0, none⟩) 1 1, iV 1, .slice (some ⟨c7, 0, none⟩) 1 1, iV 4, .slice none 0 0, iV 0, .slice none 0 0, iV 1, .slice (some ⟨c12, 0, none⟩) 1 1, iV 2, .slice (some ⟨c15, 0, none⟩) 1 1, iV 1024, .slice (some ⟨c18, 0, none⟩) 1 1, iV 1025, .slice none 0 0, iV (-1), .slice (some ⟨c23, 0, none⟩) 2 2, iV 2, .slice (some ⟨c25, 0, none⟩) 1025 1025, iV 0] 24]) ∧ ((upd ρ k y 0)).1 = spc c0 2 4 ∧ ((upd ρ k y 4)).1 = spc c4 1 1 ∧ ((upd ρ k y 7)).1 = spc c7 1 4 ∧ ((upd ρ k y 12)).1 = spc c12 1 2 ∧ ((upd ρ k y 15)).1 = spc c15 1 1024 ∧ ((upd ρ k y 18)).1 = spc c18 1 1025 ∧ ((upd ρ k y 23)).1 = spc c23 2 2 ∧ ((upd ρ k y 25)).1 = spc c25 1025 0
    rw [upd_of hk, upd_of q0, upd_of q4, upd_of q7, upd_of q12, upd_of q15, upd_of q18, upd_of q23, upd_of q25]; exact h
  | 27, _ =>
    show (upd ρ k y 27) = (iV 12, [])
    rw [upd_of hk]; exact h
  | 28, _ =>
    show (upd ρ k y 28) = (iV 0, [])
    rw [upd_of hk]; exact h
  | n + 29, hn => omega
set_option maxHeartbeats 32000000 in
theorem seg1 {b1 q : Nat} (h : X Try.prog F Try.f8.ntmps (kc 6) K [(1, pt b1), (5, .bool true)] (bp1 b1 q)) :
    X Try.prog F Try.f8.ntmps (kc 3) K [(1, pt b1)] (bp1 b1 q) := by
  change X _ _ _ (.seq _ _) _ _ _
  repeat' (first | (refine XL_id ?_; first | refine XL_nil ?_ | (refine XL_op tt_ok rfl rfl ?_)) | (refine X_id ?_; first | refine X_hold (c := .region 4 _ _) ?_ | refine X_seq ?_ | (refine X_regionN (by repeat' (first | exact .nil | apply NL.cons)) ?_)) | (refine Y_id ?_; refine Y_then ?_))
  intro _
  refine X_job [1, 2] ds4 us4 (rel4 q) [26, 27, 28] [0, 1, 2, 3, 4, 5, 6, 7, 8, 9, 10, 11, 12, 13, 14, 15, 16, 17, 18, 19, 20, 21, 22, 23, 24, 25, 26, 27, 28] mixed rfl (by decide +kernel) (by decide +kernel) (by decide +kernel) (loc4 q) (fun G hFG hM => ?_) (fun ρ hr => ?_)
  · have hb1 := blk_at 1 rfl hM
    intro k hk o ho ρ hd hu G' hG' hp rest
    match k, hk with
    | 0, _ =>
      obtain rfl := Option.some.inj (show some _ = some o from ho)
      refine XL_callK [] four_spec rfl rfl (fun _ => rfl) (fun _ _ _ => trivial) (fun u L hv => ?_); obtain ⟨q, rfl, rfl⟩ := hv
      exact XL_nil (Y_job _ (show ∃ q', upd ρ 0 _ 0 = (spc q' 2 4, [own encRg (some ⟨q', 0, none⟩) 2 2 fourL]) from ⟨q, rfl⟩) rfl)
    | 1, _ =>
      obtain rfl := Option.some.inj (show some _ = some o from ho)
      exact XL_xv (XV_loadW tt_ok rfl (blk_le hb1 hG') rfl rfl rfl) rfl rfl (XL_nil (Y_job _ (show (upd ρ 1 _ 1) = (spc q 2 3, []) from rfl) rfl))
    | 2, _ =>
      obtain rfl := Option.some.inj (show some _ = some o from ho)
      exact XL_xv (XV_build tt_ok rfl rfl rfl rfl rfl rfl) rfl rfl (XL_nil (Y_job _ (show (upd ρ 2 _ 2) = (.agg #[iV 524288, iV 1, bV 1], []) from rfl) rfl))
    | 3, _ =>
      obtain rfl := Option.some.inj (show some _ = some o from ho)
      have h2 : (ρ 2) = (.agg #[iV 524288, iV 1, bV 1], []) := hd 2 (by show 2 ∈ [2]; simp)
      show XL _ _ _ _ _ _ ((66, (ρ 2).1) :: (_ ++ rest)) _
      rw [h2]
      exact XL_lit tt_ok rfl rfl rfl rfl rfl rfl rfl rfl rfl (fun _ => rfl) (fun b => XL_nil (Y_job _ (show ∃ b', upd ρ 3 _ 3 = _ from ⟨b, rfl⟩) (by show _ :: (66, (ρ 2).1) :: (_ ++ rest) = _; rw [h2]; rfl)))
    | 4, _ =>
      obtain rfl := Option.some.inj (show some _ = some o from ho)
      obtain ⟨b3, h3⟩ : ∃ b, (ρ 3) = (.slice (some ⟨b, 0, none⟩) 1 1, [blk b [iV 524288, iV 1, bV 1] 73]) := hd 3 (by show 3 ∈ [3]; simp)
      show XL _ _ _ _ _ _ ((67, (ρ 3).1) :: (_ ++ rest)) _
      rw [h3]
      exact XL_fn (of_spec _ _ _ _) rfl rfl (fun _ _ _ => trivial) (XL_nil (Y_job _ (show ∃ b', upd ρ 4 _ 4 = _ ∧ (upd ρ 4 _ 3).1 = _ from ⟨b3, rfl, congrArg Prod.fst h3⟩) (by show _ :: (67, (ρ 3).1) :: (_ ++ rest) = _; rw [h3]; rfl)))
    | 5, _ =>
      obtain rfl := Option.some.inj (show some _ = some o from ho)
      exact XL_xv (XV_build tt_ok rfl rfl rfl rfl rfl rfl) rfl rfl (XL_nil (Y_job _ (show (upd ρ 5 _ 5) = (.agg #[iV 524287, iV 5, bV 3], []) from rfl) rfl))
    | 6, _ =>
      obtain rfl := Option.some.inj (show some _ = some o from ho)
      have h5 : (ρ 5) = (.agg #[iV 524287, iV 5, bV 3], []) := hd 5 (by show 5 ∈ [5]; simp)
      show XL _ _ _ _ _ _ ((69, (ρ 5).1) :: (_ ++ rest)) _
      rw [h5]
      exact XL_lit tt_ok rfl rfl rfl rfl rfl rfl rfl rfl rfl (fun _ => rfl) (fun b => XL_nil (Y_job _ (show ∃ b', upd ρ 6 _ 6 = _ from ⟨b, rfl⟩) (by show _ :: (69, (ρ 5).1) :: (_ ++ rest) = _; rw [h5]; rfl)))
    | 7, _ =>
      obtain rfl := Option.some.inj (show some _ = some o from ho)
      obtain ⟨b6, h6⟩ : ∃ b, (ρ 6) = (.slice (some ⟨b, 0, none⟩) 1 1, [blk b [iV 524287, iV 5, bV 3] 73]) := hd 6 (by show 6 ∈ [6]; simp)
      show XL _ _ _ _ _ _ ((70, (ρ 6).1) :: (_ ++ rest)) _
      rw [h6]
      exact XL_fn (of_spec _ _ _ _) rfl rfl (fun _ _ _ => trivial) (XL_nil (Y_job _ (show ∃ b', upd ρ 7 _ 7 = _ ∧ (upd ρ 7 _ 6).1 = _ from ⟨b6, rfl, congrArg Prod.fst h6⟩) (by show _ :: (70, (ρ 6).1) :: (_ ++ rest) = _; rw [h6]; rfl)))
    | 8, _ =>
      obtain rfl := Option.some.inj (show some _ = some o from ho)
      exact XL_fn (of_spec _ _ _ _) rfl rfl (fun _ _ _ => trivial) (XL_nil (Y_job _ (show (upd ρ 8 _ 8) = (.agg #[.slice none 0 0, iV 0], []) from rfl) rfl))
    | 9, _ =>
      obtain rfl := Option.some.inj (show some _ = some o from ho)
      exact XL_fn (of_spec _ _ _ _) rfl rfl (fun _ _ _ => trivial) (XL_nil (Y_job _ (show (upd ρ 9 _ 9) = (.agg #[.slice none 0 0, iV 1], []) from rfl) rfl))
    | 10, _ =>
      obtain rfl := Option.some.inj (show some _ = some o from ho)
      exact XL_xv (XV_build tt_ok rfl rfl rfl rfl rfl rfl) rfl rfl (XL_nil (Y_job _ (show (upd ρ 10 _ 10) = (.agg #[iV 524289, iV 1, bV 3], []) from rfl) rfl))
    | 11, _ =>
      obtain rfl := Option.some.inj (show some _ = some o from ho)
      have h10 : (ρ 10) = (.agg #[iV 524289, iV 1, bV 3], []) := hd 10 (by show 10 ∈ [10]; simp)
      show XL _ _ _ _ _ _ ((74, (ρ 10).1) :: (_ ++ rest)) _
      rw [h10]
      exact XL_lit tt_ok rfl rfl rfl rfl rfl rfl rfl rfl rfl (fun _ => rfl) (fun b => XL_nil (Y_job _ (show ∃ b', upd ρ 11 _ 11 = _ from ⟨b, rfl⟩) (by show _ :: (74, (ρ 10).1) :: (_ ++ rest) = _; rw [h10]; rfl)))
    | 12, _ =>
      obtain rfl := Option.some.inj (show some _ = some o from ho)
      obtain ⟨b11, h11⟩ : ∃ b, (ρ 11) = (.slice (some ⟨b, 0, none⟩) 1 1, [blk b [iV 524289, iV 1, bV 3] 73]) := hd 11 (by show 11 ∈ [11]; simp)
      show XL _ _ _ _ _ _ ((75, (ρ 11).1) :: (_ ++ rest)) _
      rw [h11]
      exact XL_fn (of_spec _ _ _ _) rfl rfl (fun _ _ _ => trivial) (XL_nil (Y_job _ (show ∃ b', upd ρ 12 _ 12 = _ ∧ (upd ρ 12 _ 11).1 = _ from ⟨b11, rfl, congrArg Prod.fst h11⟩) (by show _ :: (75, (ρ 11).1) :: (_ ++ rest) = _; rw [h11]; rfl)))
    | 13, _ =>
      obtain rfl := Option.some.inj (show some _ = some o from ho)
      exact XL_xv (XV_build tt_ok rfl rfl rfl rfl rfl rfl) rfl rfl (XL_nil (Y_job _ (show (upd ρ 13 _ 13) = (.agg #[iV 524288, iV 1024, bV 3], []) from rfl) rfl))
    | 14, _ =>
      obtain rfl := Option.some.inj (show some _ = some o from ho)
      have h13 : (ρ 13) = (.agg #[iV 524288, iV 1024, bV 3], []) := hd 13 (by show 13 ∈ [13]; simp)
      show XL _ _ _ _ _ _ ((77, (ρ 13).1) :: (_ ++ rest)) _
      rw [h13]
      exact XL_lit tt_ok rfl rfl rfl rfl rfl rfl rfl rfl rfl (fun _ => rfl) (fun b => XL_nil (Y_job _ (show ∃ b', upd ρ 14 _ 14 = _ from ⟨b, rfl⟩) (by show _ :: (77, (ρ 13).1) :: (_ ++ rest) = _; rw [h13]; rfl)))
    | 15, _ =>
      obtain rfl := Option.some.inj (show some _ = some o from ho)
      obtain ⟨b14, h14⟩ : ∃ b, (ρ 14) = (.slice (some ⟨b, 0, none⟩) 1 1, [blk b [iV 524288, iV 1024, bV 3] 73]) := hd 14 (by show 14 ∈ [14]; simp)
      show XL _ _ _ _ _ _ ((78, (ρ 14).1) :: (_ ++ rest)) _
      rw [h14]
      exact XL_fn (of_spec _ _ _ _) rfl rfl (fun _ _ _ => trivial) (XL_nil (Y_job _ (show ∃ b', upd ρ 15 _ 15 = _ ∧ (upd ρ 15 _ 14).1 = _ from ⟨b14, rfl, congrArg Prod.fst h14⟩) (by show _ :: (78, (ρ 14).1) :: (_ ++ rest) = _; rw [h14]; rfl)))
    | 16, _ =>
      obtain rfl := Option.some.inj (show some _ = some o from ho)
      exact XL_xv (XV_build tt_ok rfl rfl rfl rfl rfl rfl) rfl rfl (XL_nil (Y_job _ (show (upd ρ 16 _ 16) = (.agg #[iV 524288, iV 1025, bV 3], []) from rfl) rfl))
    | 17, _ =>
      obtain rfl := Option.some.inj (show some _ = some o from ho)
      have h16 : (ρ 16) = (.agg #[iV 524288, iV 1025, bV 3], []) := hd 16 (by show 16 ∈ [16]; simp)
      show XL _ _ _ _ _ _ ((80, (ρ 16).1) :: (_ ++ rest)) _
      rw [h16]
      exact XL_lit tt_ok rfl rfl rfl rfl rfl rfl rfl rfl rfl (fun _ => rfl) (fun b => XL_nil (Y_job _ (show ∃ b', upd ρ 17 _ 17 = _ from ⟨b, rfl⟩) (by show _ :: (80, (ρ 16).1) :: (_ ++ rest) = _; rw [h16]; rfl)))
    | 18, _ =>
      obtain rfl := Option.some.inj (show some _ = some o from ho)
      obtain ⟨b17, h17⟩ : ∃ b, (ρ 17) = (.slice (some ⟨b, 0, none⟩) 1 1, [blk b [iV 524288, iV 1025, bV 3] 73]) := hd 17 (by show 17 ∈ [17]; simp)
      show XL _ _ _ _ _ _ ((81, (ρ 17).1) :: (_ ++ rest)) _
      rw [h17]
      exact XL_fn (of_spec _ _ _ _) rfl rfl (fun _ _ _ => trivial) (XL_nil (Y_job _ (show ∃ b', upd ρ 18 _ 18 = _ ∧ (upd ρ 18 _ 17).1 = _ from ⟨b17, rfl, congrArg Prod.fst h17⟩) (by show _ :: (81, (ρ 17).1) :: (_ ++ rest) = _; rw [h17]; rfl)))
    | 19, _ =>
      obtain rfl := Option.some.inj (show some _ = some o from ho)
      exact XL_fn (of_spec _ _ _ _) rfl rfl (fun _ _ _ => trivial) (XL_nil (Y_job _ (show (upd ρ 19 _ 19) = (.agg #[.slice none 0 0, iV (-1)], []) from rfl) rfl))
    | 20, _ =>
      obtain rfl := Option.some.inj (show some _ = some o from ho)
      exact XL_xv (XV_build tt_ok rfl rfl rfl rfl rfl rfl) rfl rfl (XL_nil (Y_job _ (show (upd ρ 20 _ 20) = (.agg #[iV 524288, iV 2, bV 3], []) from rfl) rfl))
    | 21, _ =>
      obtain rfl := Option.some.inj (show some _ = some o from ho)
      exact XL_xv (XV_build tt_ok rfl rfl rfl rfl rfl rfl) rfl rfl (XL_nil (Y_job _ (show (upd ρ 21 _ 21) = (.agg #[iV 524297, iV 1, bV 1], []) from rfl) rfl))
    | 22, _ =>
      obtain rfl := Option.some.inj (show some _ = some o from ho)
      have h20 : (ρ 20) = (.agg #[iV 524288, iV 2, bV 3], []) := hd 20 (by show 20 ∈ [20, 21]; simp)
      have h21 : (ρ 21) = (.agg #[iV 524297, iV 1, bV 1], []) := hd 21 (by show 21 ∈ [20, 21]; simp)
      show XL _ _ _ _ _ _ ((84, (ρ 20).1) :: (85, (ρ 21).1) :: (_ ++ rest)) _
      rw [h20, h21]
      exact XL_lit tt_ok rfl rfl rfl rfl rfl rfl rfl rfl rfl (fun _ => rfl) (fun b => XL_nil (Y_job _ (show ∃ b', upd ρ 22 _ 22 = _ from ⟨b, rfl⟩) (by show _ :: (84, (ρ 20).1) :: (85, (ρ 21).1) :: (_ ++ rest) = _; rw [h20, h21]; rfl)))
    | 23, _ =>
      obtain rfl := Option.some.inj (show some _ = some o from ho)
      obtain ⟨b22, h22⟩ : ∃ b, (ρ 22) = (.slice (some ⟨b, 0, none⟩) 2 2, [blk b [iV 524288, iV 2, bV 3, iV 524297, iV 1, bV 1] 73]) := hd 22 (by show 22 ∈ [22]; simp)
      show XL _ _ _ _ _ _ ((86, (ρ 22).1) :: (_ ++ rest)) _
      rw [h22]
      exact XL_fn (of_spec _ _ _ _) rfl rfl (fun _ _ _ => trivial) (XL_nil (Y_job _ (show ∃ b', upd ρ 23 _ 23 = _ ∧ (upd ρ 23 _ 22).1 = _ from ⟨b22, rfl, congrArg Prod.fst h22⟩) (by show _ :: (86, (ρ 22).1) :: (_ ++ rest) = _; rw [h22]; rfl)))
    | 24, _ =>
      obtain rfl := Option.some.inj (show some _ = some o from ho)
      exact XL_make encRg ⟨0, 0, 0⟩ tt_ok rfl rfl rfl rfl rfl rfl rfl rfl (by decide) (by decide) (by decide) (by decide) (fun _ => rfl) (fun b => XL_nil (Y_job _ (show ∃ b', upd ρ 24 _ 24 = _ from ⟨b, rfl⟩) rfl))
    | 25, _ =>
      obtain rfl := Option.some.inj (show some _ = some o from ho)
      obtain ⟨b24, h24⟩ : ∃ b, (ρ 24) = (.slice (some ⟨b, 0, none⟩) 1025 1025, [own encRg (some ⟨b, 0, none⟩) 1025 1025 (List.replicate 1025 ⟨0, 0, 0⟩)]) := hd 24 (by show 24 ∈ [24]; simp)
      show XL _ _ _ _ _ _ ((88, (ρ 24).1) :: (_ ++ rest)) _
      rw [h24]
      exact XL_fn (of_spec _ _ _ _) rfl rfl (fun _ _ _ => trivial) (XL_nil (Y_job _ (show ∃ b', upd ρ 25 _ 25 = _ ∧ (upd ρ 25 _ 24).1 = _ from ⟨b24, rfl, congrArg Prod.fst h24⟩) (by show _ :: (88, (ρ 24).1) :: (_ ++ rest) = _; rw [h24]; rfl)))
    | 26, _ =>
      obtain rfl := Option.some.inj (show some _ = some o from ho)
      obtain ⟨b0, h0⟩ : ∃ q', (ρ 0) = (spc q' 2 4, [own encRg (some ⟨q', 0, none⟩) 2 2 fourL]) := hd 0 (by show 0 ∈ [0, 1, 4, 7, 8, 9, 12, 15, 18, 19, 23, 25]; simp)
      have h1 : (ρ 1) = (spc q 2 3, []) := hd 1 (by show 1 ∈ [0, 1, 4, 7, 8, 9, 12, 15, 18, 19, 23, 25]; simp)
      obtain ⟨b4, h4, e4⟩ : ∃ b, (ρ 4) = (spc b 1 1, []) ∧ ((ρ 3)).1 = .slice (some ⟨b, 0, none⟩) 1 1 := hd 4 (by show 4 ∈ [0, 1, 4, 7, 8, 9, 12, 15, 18, 19, 23, 25]; simp)
      obtain ⟨b7, h7, e7⟩ : ∃ b, (ρ 7) = (spc b 1 4, []) ∧ ((ρ 6)).1 = .slice (some ⟨b, 0, none⟩) 1 1 := hd 7 (by show 7 ∈ [0, 1, 4, 7, 8, 9, 12, 15, 18, 19, 23, 25]; simp)
      have h8 : (ρ 8) = (.agg #[.slice none 0 0, iV 0], []) := hd 8 (by show 8 ∈ [0, 1, 4, 7, 8, 9, 12, 15, 18, 19, 23, 25]; simp)
      have h9 : (ρ 9) = (.agg #[.slice none 0 0, iV 1], []) := hd 9 (by show 9 ∈ [0, 1, 4, 7, 8, 9, 12, 15, 18, 19, 23, 25]; simp)
      obtain ⟨b12, h12, e12⟩ : ∃ b, (ρ 12) = (spc b 1 2, []) ∧ ((ρ 11)).1 = .slice (some ⟨b, 0, none⟩) 1 1 := hd 12 (by show 12 ∈ [0, 1, 4, 7, 8, 9, 12, 15, 18, 19, 23, 25]; simp)
      obtain ⟨b15, h15, e15⟩ : ∃ b, (ρ 15) = (spc b 1 1024, []) ∧ ((ρ 14)).1 = .slice (some ⟨b, 0, none⟩) 1 1 := hd 15 (by show 15 ∈ [0, 1, 4, 7, 8, 9, 12, 15, 18, 19, 23, 25]; simp)
      obtain ⟨b18, h18, e18⟩ : ∃ b, (ρ 18) = (spc b 1 1025, []) ∧ ((ρ 17)).1 = .slice (some ⟨b, 0, none⟩) 1 1 := hd 18 (by show 18 ∈ [0, 1, 4, 7, 8, 9, 12, 15, 18, 19, 23, 25]; simp)
      have h19 : (ρ 19) = (.agg #[.slice none 0 0, iV (-1)], []) := hd 19 (by show 19 ∈ [0, 1, 4, 7, 8, 9, 12, 15, 18, 19, 23, 25]; simp)
      obtain ⟨b23, h23, e23⟩ : ∃ b, (ρ 23) = (spc b 2 2, []) ∧ ((ρ 22)).1 = .slice (some ⟨b, 0, none⟩) 2 2 := hd 23 (by show 23 ∈ [0, 1, 4, 7, 8, 9, 12, 15, 18, 19, 23, 25]; simp)
      obtain ⟨b25, h25, e25⟩ : ∃ b, (ρ 25) = (spc b 1025 0, []) ∧ ((ρ 24)).1 = .slice (some ⟨b, 0, none⟩) 1025 1025 := hd 25 (by show 25 ∈ [0, 1, 4, 7, 8, 9, 12, 15, 18, 19, 23, 25]; simp)
      show XL _ _ _ _ _ _ ((64, (ρ 0).1) :: (65, (ρ 1).1) :: (68, (ρ 4).1) :: (71, (ρ 7).1) :: (72, (ρ 8).1) :: (73, (ρ 9).1) :: (76, (ρ 12).1) :: (79, (ρ 15).1) :: (82, (ρ 18).1) :: (83, (ρ 19).1) :: (87, (ρ 23).1) :: (89, (ρ 25).1) :: (_ ++ rest)) _
      rw [h0, h1, h4, h7, h8, h9, h12, h15, h18, h19, h23, h25]
      show XL _ _ _ _ _ _ ((64, spc b0 2 4) :: (65, spc q 2 3) :: (68, spc b4 1 1) :: (71, spc b7 1 4) :: (72, Value.agg #[.slice none 0 0, iV (0)]) :: (73, Value.agg #[.slice none 0 0, iV (1)]) :: (76, spc b12 1 2) :: (79, spc b15 1 1024) :: (82, spc b18 1 1025) :: (83, Value.agg #[.slice none 0 0, iV (-1)]) :: (87, spc b23 2 2) :: (89, spc b25 1025 0) :: (_ ++ rest)) _
      refine XL_lit (vs := [(0, spc b0 2 4), (1, spc q 2 3), (2, spc b4 1 1), (3, spc b7 1 4), (4, Value.agg #[.slice none 0 0, iV (0)]), (5, Value.agg #[.slice none 0 0, iV (1)]), (6, spc b12 1 2), (7, spc b15 1 1024), (8, spc b18 1 1025), (9, Value.agg #[.slice none 0 0, iV (-1)]), (10, spc b23 2 2), (11, spc b25 1025 0)]) (r := [.slice (some ⟨b0, 0, none⟩) 2 2, iV 4, .slice (some ⟨q, 0, none⟩) 2 2, iV 3, .slice (some ⟨b4, 0, none⟩) 1 1, iV 1, .slice (some ⟨b7, 0, none⟩) 1 1, iV 4, .slice none 0 0, iV 0, .slice none 0 0, iV 1, .slice (some ⟨b12, 0, none⟩) 1 1, iV 2, .slice (some ⟨b15, 0, none⟩) 1 1, iV 1024, .slice (some ⟨b18, 0, none⟩) 1 1, iV 1025, .slice none 0 0, iV (-1), .slice (some ⟨b23, 0, none⟩) 2 2, iV 2, .slice (some ⟨b25, 0, none⟩) 1025 1025, iV 0]) tt_ok rfl rfl rfl rfl rfl rfl rfl rfl (by kernel_rfl) (fun _ => rfl) (fun b => ?_)
      exact XL_nil (Y_job _ (show ∃ b c0 c4 c7 c12 c15 c18 c23 c25, (upd ρ 26 _ 26) = (.slice (some ⟨b, 0, none⟩) 12 12, [blk b [.slice (some ⟨c0, 0, none⟩) 2 2, iV 4, .slice (some ⟨q, 0, none⟩) 2 2, iV 3, .slice (some ⟨c4, 0, none⟩) 1 1, iV 1, .slice (some ⟨c7, 0, none⟩) 1 1, iV 4, .slice none 0 0, iV 0, .slice none 0 0, iV 1, .slice (some ⟨c12, 0, none⟩) 1 1, iV 2, .slice (some ⟨c15, 0, none⟩) 1 1, iV 1024, .slice (some ⟨c18, 0, none⟩) 1 1, iV 1025, .slice none 0 0, iV (-1), .slice (some ⟨c23, 0, none⟩) 2 2, iV 2, .slice (some ⟨c25, 0, none⟩) 1025 1025, iV 0] 24]) ∧ ((upd ρ 26 _ 0)).1 = spc c0 2 4 ∧ ((upd ρ 26 _ 4)).1 = spc c4 1 1 ∧ ((upd ρ 26 _ 7)).1 = spc c7 1 4 ∧ ((upd ρ 26 _ 12)).1 = spc c12 1 2 ∧ ((upd ρ 26 _ 15)).1 = spc c15 1 1024 ∧ ((upd ρ 26 _ 18)).1 = spc c18 1 1025 ∧ ((upd ρ 26 _ 23)).1 = spc c23 2 2 ∧ ((upd ρ 26 _ 25)).1 = spc c25 1025 0 from ⟨b, b0, b4, b7, b12, b15, b18, b23, b25, rfl, congrArg Prod.fst h0, congrArg Prod.fst h4, congrArg Prod.fst h7, congrArg Prod.fst h12, congrArg Prod.fst h15, congrArg Prod.fst h18, congrArg Prod.fst h23, congrArg Prod.fst h25⟩) (by show _ :: (64, (ρ 0).1) :: (65, (ρ 1).1) :: (68, (ρ 4).1) :: (71, (ρ 7).1) :: (72, (ρ 8).1) :: (73, (ρ 9).1) :: (76, (ρ 12).1) :: (79, (ρ 15).1) :: (82, (ρ 18).1) :: (83, (ρ 19).1) :: (87, (ρ 23).1) :: (89, (ρ 25).1) :: (_ ++ rest) = _; rw [h0, h1, h4, h7, h8, h9, h12, h15, h18, h19, h23, h25]; rfl))
    | 27, _ =>
      obtain rfl := Option.some.inj (show some _ = some o from ho)
      obtain ⟨b26, c0, c4, c7, c12, c15, c18, c23, c25, h26, g0, g4, g7, g12, g15, g18, g23, g25⟩ : ∃ b c0 c4 c7 c12 c15 c18 c23 c25, (ρ 26) = (.slice (some ⟨b, 0, none⟩) 12 12, [blk b [.slice (some ⟨c0, 0, none⟩) 2 2, iV 4, .slice (some ⟨q, 0, none⟩) 2 2, iV 3, .slice (some ⟨c4, 0, none⟩) 1 1, iV 1, .slice (some ⟨c7, 0, none⟩) 1 1, iV 4, .slice none 0 0, iV 0, .slice none 0 0, iV 1, .slice (some ⟨c12, 0, none⟩) 1 1, iV 2, .slice (some ⟨c15, 0, none⟩) 1 1, iV 1024, .slice (some ⟨c18, 0, none⟩) 1 1, iV 1025, .slice none 0 0, iV (-1), .slice (some ⟨c23, 0, none⟩) 2 2, iV 2, .slice (some ⟨c25, 0, none⟩) 1025 1025, iV 0] 24]) ∧ ((ρ 0)).1 = spc c0 2 4 ∧ ((ρ 4)).1 = spc c4 1 1 ∧ ((ρ 7)).1 = spc c7 1 4 ∧ ((ρ 12)).1 = spc c12 1 2 ∧ ((ρ 15)).1 = spc c15 1 1024 ∧ ((ρ 18)).1 = spc c18 1 1025 ∧ ((ρ 23)).1 = spc c23 2 2 ∧ ((ρ 25)).1 = spc c25 1025 0 := hd 26 (by show 26 ∈ [26]; simp)
      show XL _ _ _ _ _ _ ((90, (ρ 26).1) :: (_ ++ rest)) _
      rw [h26]
      exact XL_xv (XV_op tt_ok rfl) rfl rfl (XL_nil (Y_job _ (show (upd ρ 27 _ 27) = (iV 12, []) from rfl) (by show _ :: (90, (ρ 26).1) :: (_ ++ rest) = _; rw [h26]; rfl)))
    | 28, _ =>
      obtain rfl := Option.some.inj (show some _ = some o from ho)
      exact XL_xv (XV_op tt_ok rfl) rfl rfl (XL_nil (Y_job _ (show (upd ρ 28 _ 28) = (iV 0, []) from rfl) rfl))
    | n + 29, hn => exact absurd hn (by show ¬ n + 29 < 29; omega)
  · skip
    obtain ⟨b0, h0⟩ : ∃ q', (ρ 0) = (spc q' 2 4, [own encRg (some ⟨q', 0, none⟩) 2 2 fourL]) := hr 0 (by decide)
    have h1 : (ρ 1) = (spc q 2 3, []) := hr 1 (by decide)
    have h2 : (ρ 2) = (.agg #[iV 524288, iV 1, bV 1], []) := hr 2 (by decide)
    obtain ⟨b3, h3⟩ : ∃ b, (ρ 3) = (.slice (some ⟨b, 0, none⟩) 1 1, [blk b [iV 524288, iV 1, bV 1] 73]) := hr 3 (by decide)
    obtain ⟨b4, h4, e4⟩ : ∃ b, (ρ 4) = (spc b 1 1, []) ∧ ((ρ 3)).1 = .slice (some ⟨b, 0, none⟩) 1 1 := hr 4 (by decide)
    have h5 : (ρ 5) = (.agg #[iV 524287, iV 5, bV 3], []) := hr 5 (by decide)
    obtain ⟨b6, h6⟩ : ∃ b, (ρ 6) = (.slice (some ⟨b, 0, none⟩) 1 1, [blk b [iV 524287, iV 5, bV 3] 73]) := hr 6 (by decide)
    obtain ⟨b7, h7, e7⟩ : ∃ b, (ρ 7) = (spc b 1 4, []) ∧ ((ρ 6)).1 = .slice (some ⟨b, 0, none⟩) 1 1 := hr 7 (by decide)
    have h8 : (ρ 8) = (.agg #[.slice none 0 0, iV 0], []) := hr 8 (by decide)
    have h9 : (ρ 9) = (.agg #[.slice none 0 0, iV 1], []) := hr 9 (by decide)
    have h10 : (ρ 10) = (.agg #[iV 524289, iV 1, bV 3], []) := hr 10 (by decide)
    obtain ⟨b11, h11⟩ : ∃ b, (ρ 11) = (.slice (some ⟨b, 0, none⟩) 1 1, [blk b [iV 524289, iV 1, bV 3] 73]) := hr 11 (by decide)
    obtain ⟨b12, h12, e12⟩ : ∃ b, (ρ 12) = (spc b 1 2, []) ∧ ((ρ 11)).1 = .slice (some ⟨b, 0, none⟩) 1 1 := hr 12 (by decide)
    have h13 : (ρ 13) = (.agg #[iV 524288, iV 1024, bV 3], []) := hr 13 (by decide)
    obtain ⟨b14, h14⟩ : ∃ b, (ρ 14) = (.slice (some ⟨b, 0, none⟩) 1 1, [blk b [iV 524288, iV 1024, bV 3] 73]) := hr 14 (by decide)
    obtain ⟨b15, h15, e15⟩ : ∃ b, (ρ 15) = (spc b 1 1024, []) ∧ ((ρ 14)).1 = .slice (some ⟨b, 0, none⟩) 1 1 := hr 15 (by decide)
    have h16 : (ρ 16) = (.agg #[iV 524288, iV 1025, bV 3], []) := hr 16 (by decide)
    obtain ⟨b17, h17⟩ : ∃ b, (ρ 17) = (.slice (some ⟨b, 0, none⟩) 1 1, [blk b [iV 524288, iV 1025, bV 3] 73]) := hr 17 (by decide)
    obtain ⟨b18, h18, e18⟩ : ∃ b, (ρ 18) = (spc b 1 1025, []) ∧ ((ρ 17)).1 = .slice (some ⟨b, 0, none⟩) 1 1 := hr 18 (by decide)
    have h19 : (ρ 19) = (.agg #[.slice none 0 0, iV (-1)], []) := hr 19 (by decide)
    have h20 : (ρ 20) = (.agg #[iV 524288, iV 2, bV 3], []) := hr 20 (by decide)
    have h21 : (ρ 21) = (.agg #[iV 524297, iV 1, bV 1], []) := hr 21 (by decide)
    obtain ⟨b22, h22⟩ : ∃ b, (ρ 22) = (.slice (some ⟨b, 0, none⟩) 2 2, [blk b [iV 524288, iV 2, bV 3, iV 524297, iV 1, bV 1] 73]) := hr 22 (by decide)
    obtain ⟨b23, h23, e23⟩ : ∃ b, (ρ 23) = (spc b 2 2, []) ∧ ((ρ 22)).1 = .slice (some ⟨b, 0, none⟩) 2 2 := hr 23 (by decide)
    obtain ⟨b24, h24⟩ : ∃ b, (ρ 24) = (.slice (some ⟨b, 0, none⟩) 1025 1025, [own encRg (some ⟨b, 0, none⟩) 1025 1025 (List.replicate 1025 ⟨0, 0, 0⟩)]) := hr 24 (by decide)
    obtain ⟨b25, h25, e25⟩ : ∃ b, (ρ 25) = (spc b 1025 0, []) ∧ ((ρ 24)).1 = .slice (some ⟨b, 0, none⟩) 1025 1025 := hr 25 (by decide)
    obtain ⟨b26, c0, c4, c7, c12, c15, c18, c23, c25, h26, g0, g4, g7, g12, g15, g18, g23, g25⟩ : ∃ b c0 c4 c7 c12 c15 c18 c23 c25, (ρ 26) = (.slice (some ⟨b, 0, none⟩) 12 12, [blk b [.slice (some ⟨c0, 0, none⟩) 2 2, iV 4, .slice (some ⟨q, 0, none⟩) 2 2, iV 3, .slice (some ⟨c4, 0, none⟩) 1 1, iV 1, .slice (some ⟨c7, 0, none⟩) 1 1, iV 4, .slice none 0 0, iV 0, .slice none 0 0, iV 1, .slice (some ⟨c12, 0, none⟩) 1 1, iV 2, .slice (some ⟨c15, 0, none⟩) 1 1, iV 1024, .slice (some ⟨c18, 0, none⟩) 1 1, iV 1025, .slice none 0 0, iV (-1), .slice (some ⟨c23, 0, none⟩) 2 2, iV 2, .slice (some ⟨c25, 0, none⟩) 1025 1025, iV 0] 24]) ∧ ((ρ 0)).1 = spc c0 2 4 ∧ ((ρ 4)).1 = spc c4 1 1 ∧ ((ρ 7)).1 = spc c7 1 4 ∧ ((ρ 12)).1 = spc c12 1 2 ∧ ((ρ 15)).1 = spc c15 1 1024 ∧ ((ρ 18)).1 = spc c18 1 1025 ∧ ((ρ 23)).1 = spc c23 2 2 ∧ ((ρ 25)).1 = spc c25 1025 0 := hr 26 (by decide)
    have h27 : (ρ 27) = (iV 12, []) := hr 27 (by decide)
    have h28 : (ρ 28) = (iV 0, []) := hr 28 (by decide)
    obtain rfl : b3 = b4 := by rw [h3] at e4; simpa using e4
    obtain rfl : b6 = b7 := by rw [h6] at e7; simpa using e7
    obtain rfl : b11 = b12 := by rw [h11] at e12; simpa using e12
    obtain rfl : b14 = b15 := by rw [h14] at e15; simpa using e15
    obtain rfl : b17 = b18 := by rw [h17] at e18; simpa using e18
    obtain rfl : b22 = b23 := by rw [h22] at e23; simpa using e23
    obtain rfl : b24 = b25 := by rw [h24] at e25; simpa using e25
    obtain rfl : b0 = c0 := by rw [h0] at g0; simpa using g0
    obtain rfl : b3 = c4 := by rw [h4] at g4; simpa using g4
    obtain rfl : b6 = c7 := by rw [h7] at g7; simpa using g7
    obtain rfl : b11 = c12 := by rw [h12] at g12; simpa using g12
    obtain rfl : b14 = c15 := by rw [h15] at g15; simpa using g15
    obtain rfl : b17 = c18 := by rw [h18] at g18; simpa using g18
    obtain rfl : b22 = c23 := by rw [h23] at g23; simpa using g23
    obtain rfl : b24 = c25 := by rw [h25] at g25; simpa using g25
    show Y _ _ _ _ ((90, (ρ 26).1) :: (91, (ρ 27).1) :: (92, (ρ 28).1) :: _) (((ρ 0).2 ++ ((ρ 1).2 ++ ((ρ 2).2 ++ ((ρ 3).2 ++ ((ρ 4).2 ++ ((ρ 5).2 ++ ((ρ 6).2 ++ ((ρ 7).2 ++ ((ρ 8).2 ++ ((ρ 9).2 ++ ((ρ 10).2 ++ ((ρ 11).2 ++ ((ρ 12).2 ++ ((ρ 13).2 ++ ((ρ 14).2 ++ ((ρ 15).2 ++ ((ρ 16).2 ++ ((ρ 17).2 ++ ((ρ 18).2 ++ ((ρ 19).2 ++ ((ρ 20).2 ++ ((ρ 21).2 ++ ((ρ 22).2 ++ ((ρ 23).2 ++ ((ρ 24).2 ++ ((ρ 25).2 ++ ((ρ 26).2 ++ ((ρ 27).2 ++ ((ρ 28).2 ++ []))))))))))))))))))))))))))))) ++ _)
    rw [h0, h1, h2, h3, h4, h5, h6, h7, h8, h9, h10, h11, h12, h13, h14, h15, h16, h17, h18, h19, h20, h21, h22, h23, h24, h25, h26, h27, h28]
    repeat' (first | (refine X_id ?_; refine X_block (id := 0) (hold ?_)) | (refine Y_id ?_; refine Y_then ?_))
    intro _
    refine X_loopD2 [1, 90, 91] (fun (i : Nat) (s : Option Addr × Nat) => [(92, .int .i64 i), (2, .slice s.1 i s.2)]) (fun i s => [own encE s.1 i s.2 (errL.take i), own encSv (some ⟨b26, 0, none⟩) 12 12 (svsL b0 q b3 b6 b11 b14 b17 b22 b24), own encRg (some ⟨b0, 0, none⟩) 2 2 fourL, blk b3 [iV 524288, iV 1, bV 1] 73, blk b6 [iV 524287, iV 5, bV 3] 73, blk b11 [iV 524289, iV 1, bV 3] 73, blk b14 [iV 524288, iV 1024, bV 3] 73, blk b17 [iV 524288, iV 1025, bV 3] 73, blk b22 [iV 524288, iV 2, bV 3, iV 524297, iV 1, bV 1] 73, own encRg (some ⟨b24, 0, none⟩) 1025 1025 (List.replicate 1025 ⟨0, 0, 0⟩), own encRg (some ⟨q, 0, none⟩) 2 2 fourL, blk b1 [.slice (some ⟨q, 0, none⟩) 2 2, iV 3] 24]) (fun i s => i ≤ 12) (fun i s => 12 - i) 0 (none, 0) rfl (Nat.zero_le _) (by (repeat' (first | exact trivial | refine And.intro rfl ?_)); done) (fun h hs => by
      have hs : stars [own encRg (some ⟨b0, 0, none⟩) 2 2 fourL, blk b3 [iV 524288, iV 1, bV 1] 73, blk b6 [iV 524287, iV 5, bV 3] 73, blk b11 [iV 524289, iV 1, bV 3] 73, blk b14 [iV 524288, iV 1024, bV 3] 73, blk b17 [iV 524288, iV 1025, bV 3] 73, blk b22 [iV 524288, iV 2, bV 3, iV 524297, iV 1, bV 1] 73, own encRg (some ⟨b24, 0, none⟩) 1025 1025 (List.replicate 1025 ⟨0, 0, 0⟩), blk b26 [.slice (some ⟨b0, 0, none⟩) 2 2, iV 4, .slice (some ⟨q, 0, none⟩) 2 2, iV 3, .slice (some ⟨b3, 0, none⟩) 1 1, iV 1, .slice (some ⟨b6, 0, none⟩) 1 1, iV 4, .slice none 0 0, iV 0, .slice none 0 0, iV 1, .slice (some ⟨b11, 0, none⟩) 1 1, iV 2, .slice (some ⟨b14, 0, none⟩) 1 1, iV 1024, .slice (some ⟨b17, 0, none⟩) 1 1, iV 1025, .slice none 0 0, iV (-1), .slice (some ⟨b22, 0, none⟩) 2 2, iV 2, .slice (some ⟨b24, 0, none⟩) 1025 1025, iV 0] 24, own encRg (some ⟨q, 0, none⟩) 2 2 fourL, blk b1 [.slice (some ⟨q, 0, none⟩) 2 2, iV 3] 24] h := hs
      have hs := stars_new (own_nil encE _) (stars_conv (k := 8) (B := own encSv (some ⟨b26, 0, none⟩) 12 12 (svsL b0 q b3 b6 b11 b14 b17 b22 b24)) rfl (fun _ o => own_of_blk o rfl (by kernel_rfl) (by decide)) hs)
      exact stars_only [0, 8, 0, 0, 0, 0, 0, 0, 0, 0, 0, 0] rfl h hs) ?_
    intro i s hi
    obtain ⟨A, c⟩ := s
    dsimp only
    by_cases hlt : i < 12
    · have hmem := Vm.get_mem (l := svsL b0 q b3 b6 b11 b14 b17 b22 b24) (i := (i : Int)) (by omega) (by show (i : Int) < (12 : Nat); omega)
      have hok := svsL_ok b0 q b3 b6 b11 b14 b17 b22 b24 _ hmem
      have hsn := k_chk b0 q b3 b6 b11 b14 b17 b22 b24 hlt
      have hck := scheck_spec (Cof.get (svsL b0 q b3 b6 b11 b14 b17 b22 b24) (i : Int)).A (Cof.get (svsL b0 q b3 b6 b11 b14 b17 b22 b24) (i : Int)).m (Cof.get (svsL b0 q b3 b6 b11 b14 b17 b22 b24) (i : Int)).c (Cof.get (svsL b0 q b3 b6 b11 b14 b17 b22 b24) (i : Int)).l (Cof.get (svsL b0 q b3 b6 b11 b14 b17 b22 b24) (i : Int)).h (by have := hok.m; omega) hok.all
      obtain ⟨e, he⟩ : ∃ e, scheck (Cof.get (svsL b0 q b3 b6 b11 b14 b17 b22 b24) (i : Int)).l (Cof.get (svsL b0 q b3 b6 b11 b14 b17 b22 b24) (i : Int)).h = e := ⟨_, rfl⟩
      rw [he] at hck hsn
      repeat' (first | (refine XL_id ?_; first | refine XL_nil ?_ | (refine XL_conv 0 (own encE (some ⟨_, 0, none⟩) 1 1 [e]) rfl (fun h o => own_of_blk o rfl rfl (by decide)) ?_; refine XL_appO tt_ok 2 0 rfl rfl rfl rfl rfl rfl rfl rfl rfl rfl (by show (_ : Nat) * 8 ≤ _; omega) (by omega) (fun _ _ => rfl) (fun A2 c2 => ?_)) | (refine XG_load ?_; first | refine XL_loadW tt_ok 0 rfl rfl rfl rfl rfl rfl ?_ | refine XL_eloW tt_ok 1 rfl rfl rfl (by omega) (by omega) rfl rfl rfl rfl ?_) | (refine XG_idx ?_; refine XL_idxo tt_ok 1 rfl rfl rfl rfl rfl rfl (by omega) (by omega) rfl ?_) | (refine XG_call ?_; refine XL_fn hck rfl rfl (fun g hg hL => svsL_rd b0 q b3 b6 b11 b14 b17 b22 b24 (stars_only [3, 3, 3, 3, 3, 3, 3, 3, 3] rfl g hL) _ hmem) ?_) | (refine XG_alloc ?_; (refine XL_alloc tt_ok rfl rfl (fun _ => rfl) (fun b => ?_); refine XL_nB (by repeat' (first | exact .nil | apply NL.cons)) ?_)) | (refine XG_lit ?_; (refine XL_lit tt_ok rfl rfl rfl rfl rfl rfl rfl rfl rfl (fun _ => rfl) (fun b => ?_); refine XL_nB (by repeat' (first | exact .nil | apply NL.cons)) ?_)) | (refine XG_store ?_; (refine XL_storeW tt_ok 0 rfl rfl rfl rfl rfl rfl rfl ?_; refine XL_nK 0 rfl (by repeat' (first | exact .nil | apply NL.cons)) ?_)) | (refine XL_op tt_ok rfl rfl ?_; try (first | refine XL_int (wrap_i64 (by omega) (by omega)) ?_ | refine XL_dec_t (by omega) ?_))) | (refine X_id ?_; first | refine X_seq ?_ | (refine X_regionN (by repeat' (first | exact .nil | apply NL.cons)) ?_) | refine X_skip ?_ | refine X_block ?_ | refine X_cond_t rfl ?_) | (refine Y_id ?_; first | refine Y_then ?_ | refine Y_block_normal ?_))
      all_goals first
        | exact Y_again (i + 1, (A2, c2)) fun _ _ hf hs => ⟨by show i + 1 ≤ 12; omega, by show 12 - (i + 1) < 12 - i; omega, hf.sub (by (repeat' (first | exact trivial | refine And.intro rfl ?_)); done), hs.imp fun h hs => by show stars (own encE A2 (i + 1) c2 (errL.take (i + 1)) :: _) h; rw [hsn]; exact stars_only [2, 2, 2, 2, 2, 2, 2, 2, 2, 2, 2, 2] rfl h hs⟩
        | (exfalso; omega)
        | skip
      
    · obtain rfl : i = 12 := by omega
      rw [show errL.take 12 = [0, 2, 2, 0, 0, 2, 2, 0, 2, 2, 2, 3] from rfl]
      repeat' (first | (refine XL_id ?_; first | refine XL_nil ?_ | refine XL_guard_yes rfl rfl rfl ?_ | (refine XG_load ?_; refine XL_elo tt_ok 0 rfl rfl rfl (by omega) (by omega) rfl rfl rfl rfl ?_) | (refine XG_idx ?_; refine XL_idxo tt_ok 0 rfl rfl rfl rfl rfl rfl (by omega) (by omega) rfl ?_) | (refine XL_op tt_ok rfl rfl ?_; try (first | refine XL_dec_t (by omega) ?_ | refine XL_dec_f (by omega) ?_ | refine XL_dec_t (by decide +kernel) ?_))) | (refine X_id ?_; first | (refine X_regionEN (id := 5) [1, 2, 90, 91, 92] rfl (by repeat' (first | exact .nil | apply NL.cons)) ?_) | (refine X_regionEN (id := 9) [1, 2] rfl (by repeat' (first | exact .nil | apply NL.cons)) ?_) | refine X_hold (c := .seq (.region 10 _ _) _) ?_ | refine X_seq ?_ | refine X_exit ?_ | refine X_cond_f rfl ?_) | (refine Y_id ?_; first | refine Y_then ?_ | refine Y_then_exit ?_ | refine Y_block_hit ?_))
      all_goals first
        | (intro _; exact X_mem (fun h' hs => stars_only [10, 10] rfl h' hs) (X_sub h (by (repeat' (first | exact trivial | refine And.intro rfl ?_)); done)))
        | (exfalso; omega)
        | skip
      
end
end Go.Proofs.Ytalkcemelegohaa
