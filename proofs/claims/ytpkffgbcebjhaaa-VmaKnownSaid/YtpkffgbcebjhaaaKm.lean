/- A full list: 1025 regions of two pages, each apart from the next one. -/
import Derived.Test.YtpkffgbcebjhaaaPc
set_option linter.unusedVariables false
namespace Go.Proofs.Ytpkffgbcebjhaaa
open Go.RowKit Go.Cof

def mk3 (i : Nat) : Rg := ⟨1 + 3 * (i : Int), 2, 1⟩
def seqM : Nat → Nat → List Rg
  | _, 0 => []
  | i, n + 1 => mk3 i :: seqM (i + 1) n
theorem seqM_length : ∀ (n i : Nat), (seqM i n).length = n
  | 0, _ => rfl
  | n + 1, i => by simp [seqM, seqM_length n]
theorem seqM_succ : ∀ (n i : Nat), seqM i (n + 1) = seqM i n ++ [mk3 (i + n)]
  | 0, i => rfl
  | n + 1, i => by
    show mk3 i :: seqM (i + 1) (n + 1) = mk3 i :: (seqM (i + 1) n ++ [_])
    rw [seqM_succ n (i + 1), show i + 1 + n = i + (n + 1) from by omega]
theorem seqM_take : ∀ (k n i : Nat), k ≤ n → (seqM i n).take k = seqM i k
  | 0, n, i, _ => by simp [seqM]
  | k + 1, 0, i, h => by omega
  | k + 1, n + 1, i, h => by
    show mk3 i :: (seqM (i + 1) n).take k = _
    rw [seqM_take k n (i + 1) (by omega)]
    rfl
theorem seqM_mem : ∀ {n i : Nat} {r : Rg}, r ∈ seqM i n → ∃ k, i ≤ k ∧ k < i + n ∧ r = mk3 k
  | 0, i, r, h => by cases h
  | n + 1, i, r, h => by
    rcases List.mem_cons.1 h with rfl | h
    · exact ⟨i, by omega, by omega, rfl⟩
    · obtain ⟨k, h1, h2, h3⟩ := seqM_mem h
      exact ⟨k, by omega, by omega, h3⟩
theorem mk3_ok {k : Nat} (h : k ≤ 2000) : (mk3 k).Ok := ⟨by show (1 : Int) ≤ 1 + 3 * k; omega, by show (1 : Int) ≤ 2; decide, by show 1 + 3 * (k : Int) + 2 ≤ 1048576; omega, .inr (.inl rfl)⟩
theorem mk3_end (k : Nat) : (mk3 k).end = 3 + 3 * (k : Int) := by show 1 + 3 * (k : Int) + 2 = _; omega
theorem seqM_good : ∀ (n i : Nat), i + n ≤ 2000 → Good (seqM i n)
  | 0, i, _ => ⟨fun r h => (by cases h), List.Pairwise.nil⟩
  | n + 1, i, h => by
    have ih := seqM_good n (i + 1) (by omega)
    refine ⟨fun r hr => ?_, List.pairwise_cons.2 ⟨fun r hr => ?_, ih.pw⟩⟩
    · obtain ⟨k, h1, h2, rfl⟩ := seqM_mem hr
      exact mk3_ok (by omega)
    · obtain ⟨k, h1, h2, rfl⟩ := seqM_mem hr
      left
      rw [mk3_end]
      show 3 + 3 * (i : Int) < 1 + 3 * (k : Int)
      omega
theorem lastR_snoc (a : List Rg) (x : Rg) : lastR (a ++ [x]) = x := by
  unfold lastR Cof.get
  rw [show (((a ++ [x]).length : Int) - 1).toNat = a.length from by simp]
  simp [List.getD_eq_getElem?_getD]
theorem addR_apart {a : List Rg} {x r : Rg} (h : x.end < r.p) : addR (a ++ [x]) r = a ++ [x] ++ [r] := by
  unfold addR
  rw [if_neg]
  rintro ⟨_, h1, _⟩
  rw [lastR_snoc] at h1
  omega
theorem step_far {a : List Rg} {r : Rg} {f t s : Int} (h1 : t ≤ r.p) (h2 : 1 ≤ r.n) : stepR f t (a, s) r = (addR a r, s) := by
  have e : r.end = r.p + r.n := rfl
  have e1 : tailR r t = r := by
    unfold tailR
    rw [if_neg (by omega), e]
    show (⟨r.p, r.p + r.n - r.p, r.m⟩ : Rg) = r
    rw [show r.p + r.n - r.p = r.n from by omega]
  have e2 : gotR r f t = 0 := by
    unfold gotR
    rw [if_pos (show t < r.end by omega)]
    by_cases h : f > r.p
    · rw [if_pos h, if_neg (by omega)]
    · rw [if_neg h, if_neg (by omega)]
  unfold stepR
  rw [if_pos (by omega), e1, e2, Int.add_zero]
theorem fold_apart : ∀ (n i : Nat) (a : List Rg) (x : Rg) (f t s : Int), x.end < 1 + 3 * (i : Int) → t ≤ 1 + 3 * (i : Int) → (seqM i n).foldl (stepR f t) (a ++ [x], s) = (a ++ [x] ++ seqM i n, s)
  | 0, i, a, x, f, t, s, _, _ => by simp [seqM]
  | n + 1, i, a, x, f, t, s, h1, h2 => by
    show (seqM (i + 1) n).foldl (stepR f t) (stepR f t (a ++ [x], s) (mk3 i)) = _
    rw [step_far (by show t ≤ 1 + 3 * (i : Int); exact h2) (by show (1 : Int) ≤ 2; decide), addR_apart (by show x.end < 1 + 3 * (i : Int); exact h1), fold_apart n (i + 1) (a ++ [x]) (mk3 i) f t s (by rw [mk3_end]; omega) (by omega)]
    show (a ++ [x] ++ [mk3 i] ++ seqM (i + 1) n, s) = (a ++ [x] ++ (mk3 i :: seqM (i + 1) n), s)
    rw [List.append_assoc (a ++ [x])]
    rfl
def many : List Rg := seqM 0 1025
def many4 : List Rg := seqM 0 1024
def many3 : List Rg := seqM 0 1023
theorem many_4 : many.take 1024 = many4 := seqM_take 1024 1025 0 (by omega)
theorem many_3 : many.take 1023 = many3 := seqM_take 1023 1025 0 (by omega)
theorem many_len : many.length = 1025 := seqM_length _ _
theorem seqM_in (n : Nat) (h : n ≤ 2000) : ∀ r ∈ seqM 0 n, r.In := fun r hr => by
  obtain ⟨k, _, h2, rfl⟩ := seqM_mem hr
  exact ⟨by show -9223372036854775808 ≤ 1 + 3 * (k : Int) ∧ 1 + 3 * (k : Int) ≤ 9223372036854775807; omega, by show (-9223372036854775808 : Int) ≤ 2 ∧ (2 : Int) ≤ 9223372036854775807; decide, by show (0 : Int) ≤ 1 ∧ (1 : Int) < 256; decide⟩
theorem c_many : checkE many = 3 := by
  unfold checkE
  rw [if_pos (by rw [many_len]; omega)]
theorem c_4 : checkE many4 = 0 := (seqM_good 1024 0 (by omega)).check (by rw [seqM_length]; omega)
theorem c_3 : checkE many3 = 0 := (seqM_good 1023 0 (by omega)).check (by rw [seqM_length]; omega)
theorem seqM_cons (i n : Nat) : seqM i (n + 1) = mk3 i :: seqM (i + 1) n := rfl
theorem cons_4 : many4 = mk3 0 :: seqM 1 1023 := seqM_cons 0 1023
theorem cons_3 : many3 = mk3 0 :: seqM 1 1022 := seqM_cons 0 1022
theorem cons_1 (n : Nat) : seqM 1 (n + 1) = mk3 1 :: seqM 2 n := seqM_cons 1 n
theorem firstN_all {l : List Rg} {page : Int} (h : ∀ r ∈ l, r.end ≤ page) : firstN l page = l.length := by
  unfold firstN
  induction l with
  | nil => rfl
  | cons r l ih => rw [List.takeWhile_cons, if_pos (decide_eq_true (h r (by simp))), List.length_cons, ih fun x hx => h x (by simp [hx])]; rfl
theorem firstN_0 {r : Rg} {l : List Rg} {page : Int} (h : page < r.end) : firstN (r :: l) page = 0 := by
  unfold firstN
  rw [List.takeWhile_cons, if_neg (by rw [decide_eq_true_eq]; omega)]
  rfl
theorem firstN_s {r : Rg} {l : List Rg} {page : Int} (h : r.end ≤ page) : firstN (r :: l) page = firstN l page + 1 := by
  unfold firstN
  rw [List.takeWhile_cons, if_pos (by rw [decide_eq_true_eq]; omega)]
  rfl
theorem few_well {l : List Rg} (h : l.length ≤ 1024) : (fewP l).2 = 0 := by unfold fewP; rw [if_neg (by omega)]
theorem few_much {l : List Rg} (h : 1024 < l.length) : (fewP l).2 = 3 := by unfold fewP; rw [if_pos h]
set_option maxRecDepth 100000 in
theorem many_put : (putP many4 ⟨9000, 1, 0⟩).2 = 3 := by
  have hf : firstN many4 9000 = 1024 := by
    rw [firstN_all fun r hr => ?_]
    · exact seqM_length _ _
    · obtain ⟨k, _, h2, rfl⟩ := seqM_mem hr
      rw [mk3_end]
      omega
  have hl : many4.length = 1024 := seqM_length _ _
  have e : changedF many4 9000 9001 [⟨9000, 1, 0⟩] = (many4 ++ [⟨9000, 1, 0⟩], 0) := by
    unfold changedF headF
    rw [hf]
    simp only
    rw [if_neg (by omega), List.drop_of_length_le (by omega), List.take_of_length_le (by omega)]
    show (addR many4 ⟨9000, 1, 0⟩, (0 : Int)) = _
    rw [show many4 = seqM 0 1023 ++ [mk3 1023] from seqM_succ 1023 0, addR_apart (by decide)]
  unfold putP
  rw [c_4, if_neg (by decide), if_neg (by decide)]
  show (if 0 < (changedF many4 9000 9001 [⟨9000, 1, 0⟩]).2 then _ else fewP (changedF many4 9000 9001 [⟨9000, 1, 0⟩]).1).2 = 3
  rw [e, if_neg (by decide)]
  exact few_much (by rw [List.length_append, hl]; decide)
set_option maxRecDepth 100000 in
theorem many_put2 : (putP many4 ⟨3, 1, 1⟩).2 = 0 := by
  have hf : firstN many4 3 = 1 := by rw [cons_4, firstN_s (by decide), cons_1, firstN_0 (by decide)]
  have e : changedF many4 3 4 [⟨3, 1, 1⟩] = ([⟨1, 5, 1⟩] ++ seqM 2 1022, 0) := by
    unfold changedF headF
    rw [hf]
    simp only
    rw [cons_4, cons_1]
    rw [if_neg (by rintro ⟨_, h⟩; revert h; decide)]
    show (mk3 1 :: seqM 2 1022).foldl (stepR 3 4) ([⟨3, 1, 1⟩].foldl addR [mk3 0], 0) = _
    rw [List.foldl_cons, show stepR 3 4 ([⟨3, 1, 1⟩].foldl addR [mk3 0], 0) (mk3 1) = ([] ++ [⟨1, 5, 1⟩], 0) from by decide +kernel, fold_apart _ _ _ _ _ _ _ (by decide) (by decide)]
    rfl
  unfold putP
  rw [c_4, if_neg (by decide), if_neg (by decide)]
  show (if 0 < (changedF many4 3 4 [⟨3, 1, 1⟩]).2 then _ else fewP (changedF many4 3 4 [⟨3, 1, 1⟩]).1).2 = 0
  rw [e, if_neg (by decide)]
  exact few_well (by rw [List.length_append, seqM_length]; decide)
set_option maxRecDepth 100000 in
theorem many_cut : (cutP many4 1 1).2 = 0 := by
  have hf : firstN many4 1 = 0 := by rw [cons_4, firstN_0 (by decide)]
  have e : (changedF many4 1 2 []).1 = [⟨2, 1, 1⟩] ++ seqM 1 1023 := by
    unfold changedF headF
    rw [hf]
    simp only
    rw [cons_4]
    rw [if_neg (by rintro ⟨_, h⟩; revert h; decide)]
    show ((mk3 0 :: seqM 1 1023).foldl (stepR 1 2) ([], 0)).1 = _
    rw [List.foldl_cons, show stepR 1 2 ([], 0) (mk3 0) = ([] ++ [⟨2, 1, 1⟩], 1) from by decide +kernel, fold_apart _ _ _ _ _ _ _ (by decide) (by decide)]
    rfl
  unfold cutP
  rw [c_4, if_neg (by decide), if_neg (by decide)]
  show (fewP (changedF many4 1 2 []).1).2 = 0
  rw [e]
  exact few_well (by rw [List.length_append, seqM_length]; decide)
set_option maxRecDepth 100000 in
theorem many_prot : (protP many4 1 1 3).2 = 3 := by
  have hf : firstN many4 1 = 0 := by rw [cons_4, firstN_0 (by decide)]
  have e : changedF many4 1 2 [⟨1, 1, 3⟩] = ([⟨1, 1, 3⟩] ++ [⟨2, 1, 1⟩] ++ seqM 1 1023, 1) := by
    unfold changedF headF
    rw [hf]
    simp only
    rw [cons_4]
    rw [if_neg (by rintro ⟨_, h⟩; revert h; decide)]
    show (mk3 0 :: seqM 1 1023).foldl (stepR 1 2) ([⟨1, 1, 3⟩].foldl addR [], 0) = _
    rw [List.foldl_cons, show stepR 1 2 ([⟨1, 1, 3⟩].foldl addR [], 0) (mk3 0) = ([⟨1, 1, 3⟩] ++ [⟨2, 1, 1⟩], 1) from by decide +kernel, fold_apart _ _ _ _ _ _ _ (by decide) (by decide)]
  unfold protP
  rw [c_4, if_neg (by decide), if_neg (by decide)]
  show (if (changedF many4 1 2 [⟨1, 1, 3⟩]).2 < 1 then _ else fewP (changedF many4 1 2 [⟨1, 1, 3⟩]).1).2 = 3
  rw [e, if_neg (by decide)]
  exact few_much (by rw [List.length_append, seqM_length]; decide)
set_option maxRecDepth 100000 in
theorem many_cut3 : (cutP many3 1 2).2 = 0 := by
  have hf : firstN many3 1 = 0 := by rw [cons_3, firstN_0 (by decide)]
  have e : (changedF many3 1 3 []).1 = [mk3 1] ++ seqM 2 1021 := by
    unfold changedF headF
    rw [hf]
    simp only
    rw [cons_3, cons_1]
    rw [if_neg (by rintro ⟨_, h⟩; revert h; decide)]
    show ((mk3 0 :: mk3 1 :: seqM 2 1021).foldl (stepR 1 3) ([], 0)).1 = _
    rw [List.foldl_cons, List.foldl_cons, show stepR 1 3 (stepR 1 3 ([], 0) (mk3 0)) (mk3 1) = ([] ++ [mk3 1], 2) from by decide +kernel, fold_apart _ _ _ _ _ _ _ (by decide) (by decide)]
    rfl
  unfold cutP
  rw [c_3, if_neg (by decide), if_neg (by decide)]
  show (fewP (changedF many3 1 3 []).1).2 = 0
  rw [e]
  exact few_well (by rw [List.length_append, seqM_length]; decide)
end Go.Proofs.Ytpkffgbcebjhaaa
