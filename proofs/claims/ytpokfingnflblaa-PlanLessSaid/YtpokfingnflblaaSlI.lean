/- Numbers: shifts and bits as sums and quotients. -/
import Derived.Test.YtpokfingnflblaaSlH
set_option linter.unusedVariables false
namespace Go.Cof
open Go.RowKit

theorem min64 {k : Int} (h0 : 0 ≤ k) (h : k ≤ 64) : min k.toNat IntKind.u64.bits = k.toNat := by
  show min k.toNat 64 = _
  omega
theorem min64i {k : Int} (h0 : 0 ≤ k) (h : k ≤ 64) : min k.toNat IntKind.i64.bits = k.toNat := by
  show min k.toNat 64 = _
  omega
theorem p256 (k : Nat) : (2 : Int) ^ (8 * k) = 256 ^ k := by rw [Int.pow_mul]; rfl
theorem p256' {i : Int} (h : 0 ≤ i) (h' : i ≤ 8) : (2 : Int) ^ (min (8 * i).toNat IntKind.u64.bits) = 256 ^ i.toNat := by
  rw [min64 (by omega) (by omega), show (8 * i).toNat = 8 * i.toNat from by omega, p256]
theorem pow256_pos (k : Nat) : (0 : Int) < 256 ^ k := Int.pow_pos (by decide)
theorem or_u64 {x y : Int} (i : Nat) (hx0 : 0 ≤ x) (hx : x % 2 ^ i = 0) (hx1 : x < 18446744073709551616) (hy0 : 0 ≤ y) (hy : y < 2 ^ i) (hy1 : y < 18446744073709551616) : bits .or .u64 x y = x + y :=
  bits_join .u64 64 (by decide) (fun n h0 h1 => wrap_u64 h0 (by simpa using h1)) i x y hx0 hx (by simpa using hx1) hy0 hy (by simpa using hy1)
theorem or_comm_u64 {x y : Int} : bits .or .u64 x y = bits .or .u64 y x := by unfold bits; simp only [BitVec.or_comm]
theorem shl8_u64 {x : Int} (h0 : 0 ≤ x) (h1 : x < 72057594037927936) : IntKind.u64.wrap (x * 2 ^ min (Int.toNat 8) IntKind.u64.bits) = x * 256 := by
  rw [show (2 : Int) ^ min (Int.toNat 8) IntKind.u64.bits = 256 from by decide]
  exact wrap_u64 (by omega) (by omega)
theorem shr8 {x : Int} : x / 2 ^ min (Int.toNat 8) IntKind.u64.bits = x / 256 := by
  rw [show (2 : Int) ^ min (Int.toNat 8) IntKind.u64.bits = 256 from by decide]
theorem bool_t {p : Prop} [Decidable p] (h : p) : Value.bool true = .bool (decide p) := by rw [decide_eq_true h]
theorem bool_f {p : Prop} [Decidable p] (h : ¬ p) : Value.bool false = .bool (decide p) := by rw [decide_eq_false h]
theorem toNat_lt {x : Int} {k : Nat} (h0 : 0 ≤ x) (h : x < k) : x.toNat < k := by omega

theorem stars_two (ks1 ks2 : List Nat) {L M1 R1 M2 R2 : List HProp} {A1 A2 : HProp} (h1 : takeP L ks1 = some (M1, R1)) (h2 : takeP R1 ks2 = some (M2, R2)) (a1 : ∀ h, stars M1 h → A1 h) (a2 : ∀ h, stars M2 h → A2 h) : ∀ g, stars L g → stars [A1, A2] g := fun g hs => by
  obtain ⟨k1, k2, d, x1, x2, hA, hR⟩ := stars_shut a1 (stars_take ks1 h1 hs)
  exact ⟨k1, k2, d, x1, x2, hA, stars_fin ks2 h2 a2 _ hR⟩
theorem stars_three (ks1 ks2 ks3 : List Nat) {L M1 R1 M2 R2 M3 R3 : List HProp} {A1 A2 A3 : HProp} (h1 : takeP L ks1 = some (M1, R1)) (h2 : takeP R1 ks2 = some (M2, R2)) (h3 : takeP R2 ks3 = some (M3, R3)) (a1 : ∀ h, stars M1 h → A1 h) (a2 : ∀ h, stars M2 h → A2 h) (a3 : ∀ h, stars M3 h → A3 h) : ∀ g, stars L g → stars [A1, A2, A3] g := fun g hs => by
  obtain ⟨k1, k2, d, x1, x2, hA, hR⟩ := stars_shut a1 (stars_take ks1 h1 hs)
  exact ⟨k1, k2, d, x1, x2, hA, stars_two ks2 ks3 h2 h3 a2 a3 _ hR⟩
theorem stars_one {A : HProp} {h : Hp} (hs : stars [A] h) : ∃ g : Hp, Hp.le g h ∧ A g := let ⟨g, _, _, hg, _, hA, _⟩ := hs; ⟨g, hg, hA⟩
theorem stars_blk {b : Nat} {cs : List Value} {e : TypeId} {h : Hp} (hs : stars [blk b cs e] h) : blk b cs e h := let ⟨_, hg, hA⟩ := stars_one hs; blk_le hA hg
theorem stars_own {α : Type} {E : Enc α} {A : Option Addr} {m c : Nat} {xs : List α} {h : Hp} (hs : stars [own E A m c xs] h) : own E A m c xs h := let ⟨_, hg, hA⟩ := stars_one hs; own_le hA hg
theorem flat_i (k : IntKind) (xs : List Int) : flat (encI k) xs = xs.map (Value.int k) := by
  induction xs with
  | nil => rfl
  | cons x xs ih => simp only [flat, List.flatMap_cons, List.map_cons] at ih ⊢; rw [ih]; rfl

section
variable {P : Program} {F : Frz} {n : Nat} {Q : Exit → Act → World → Prop} {e : Env} {L : List HProp} {α β γ : Type}
theorem X_loop2 {c : Code} (E : α → β → Env) (M : α → β → List HProp) (p : α → β → Prop) (μ : α → β → Nat) (a0 : α) (b0 : β) (h0 : p a0 b0) (he : Sub (E a0 b0) e) (hL : ∀ h, stars L h → stars (M a0 b0) h)
    (round : ∀ a b, p a b → X P F n c (Exit.then (fun x w => ∃ j : α × β, p j.1 j.2 ∧ μ j.1 j.2 < μ a b ∧ Fr n (E j.1 j.2) x ∧ St F w (M j.1 j.2)) Q) (E a b) (M a b)) : X P F n (.loop c) Q e L :=
  X_loop (ι := α × β) (fun i => E i.1 i.2) (fun i => M i.1 i.2) (fun i => p i.1 i.2) (fun i => μ i.1 i.2) (a0, b0) h0 he hL fun i h => round i.1 i.2 h
theorem Y_round2 {E : α → β → Env} {M : α → β → List HProp} {p : α → β → Prop} {μ : α → β → Nat} {m : Nat} (a : α) (b : β) (hp : p a b) (hm : μ a b < m) (he : Sub (E a b) e) (hL : ∀ h, stars L h → stars (M a b) h) :
    Y F n (Exit.then (fun x w => ∃ j : α × β, p j.1 j.2 ∧ μ j.1 j.2 < m ∧ Fr n (E j.1 j.2) x ∧ St F w (M j.1 j.2)) Q) .normal e L := .mk fun _ _ hf hs => ⟨(a, b), hp, hm, hf.sub he, hs.imp hL⟩
theorem X_loop3 {c : Code} (E : α → β → γ → Env) (M : α → β → γ → List HProp) (p : α → β → γ → Prop) (μ : α → β → γ → Nat) (a0 : α) (b0 : β) (c0 : γ) (h0 : p a0 b0 c0) (he : Sub (E a0 b0 c0) e) (hL : ∀ h, stars L h → stars (M a0 b0 c0) h)
    (round : ∀ a b c', p a b c' → X P F n c (Exit.then (fun x w => ∃ j : α × β × γ, p j.1 j.2.1 j.2.2 ∧ μ j.1 j.2.1 j.2.2 < μ a b c' ∧ Fr n (E j.1 j.2.1 j.2.2) x ∧ St F w (M j.1 j.2.1 j.2.2)) Q) (E a b c') (M a b c')) : X P F n (.loop c) Q e L :=
  X_loop (ι := α × β × γ) (fun i => E i.1 i.2.1 i.2.2) (fun i => M i.1 i.2.1 i.2.2) (fun i => p i.1 i.2.1 i.2.2) (fun i => μ i.1 i.2.1 i.2.2) (a0, b0, c0) h0 he hL fun i h => round i.1 i.2.1 i.2.2 h
theorem Y_round3 {E : α → β → γ → Env} {M : α → β → γ → List HProp} {p : α → β → γ → Prop} {μ : α → β → γ → Nat} {m : Nat} (a : α) (b : β) (c : γ) (hp : p a b c) (hm : μ a b c < m) (he : Sub (E a b c) e) (hL : ∀ h, stars L h → stars (M a b c) h) :
    Y F n (Exit.then (fun x w => ∃ j : α × β × γ, p j.1 j.2.1 j.2.2 ∧ μ j.1 j.2.1 j.2.2 < m ∧ Fr n (E j.1 j.2.1 j.2.2) x ∧ St F w (M j.1 j.2.1 j.2.2)) Q) .normal e L := .mk fun _ _ hf hs => ⟨(a, b, c), hp, hm, hf.sub he, hs.imp hL⟩
end
/-- On with the loop, whatever its invariant's form. -/
theorem Y_again {ι : Type} {F : Frz} {n : Nat} {Q : Exit → Act → World → Prop} {e : Env} {L : List HProp} {R : ι → Act → World → Prop} (x : ι) (h : ∀ a w, Fr n e a → St F w L → R x a w) : Y F n (Exit.then (fun a w => ∃ j, R j a w) Q) .normal e L := .mk fun a w hf hs => ⟨x, h a w hf hs⟩
theorem stars_new {L : List HProp} {A : HProp} (hA : A Hp.nil) {g : Hp} (h : stars L g) : stars (A :: L) g := ⟨Hp.nil, g, ⟨fun _ => .inl rfl⟩, ⟨fun _ _ e => by cases e⟩, Hp.le_refl g, hA, h⟩
theorem own_nil {α : Type} (E : Enc α) (h : Hp) : own E none 0 0 [] h := .inl ⟨rfl, rfl, rfl, rfl⟩
theorem own_some {α : Type} {E : Enc α} {A : Option Addr} {m c : Nat} {xs : List α} {h : Hp} (o : own E A m c xs h) (hm : 0 < m) : ∃ q, A = some ⟨q, 0, none⟩ := by
  rcases o with ⟨_, h2, _⟩ | ⟨q, _, _, h2, _⟩
  · omega
  · exact ⟨q, h2⟩
section
variable {P : Program} {T : Tab} {F G : Frz} {n : Nat} {Q : Exit → Act → World → Prop} {e : Env} {L : List HProp} {ops : Array Oper} {kd : Nat → Kin} {σ : List Nat}
theorem XD_int {j : Nat} {k : IntKind} {x y : Int} (hxy : x = y) (h : XD P G F n ops kd σ Q ((j, .int k y) :: e) L) : XD P G F n ops kd σ Q ((j, .int k x) :: e) L := hxy ▸ h
theorem XD_head {j : Nat} {x y : Value} (hxy : x = y) (h : XD P G F n ops kd σ Q ((j, y) :: e) L) : XD P G F n ops kd σ Q ((j, x) :: e) L := hxy ▸ h
theorem XD_dec {j : Nat} {p : Prop} [Decidable p] (h1 : p → XD P G F n ops kd σ Q ((j, .bool true) :: e) L) (h2 : ¬ p → XD P G F n ops kd σ Q ((j, .bool false) :: e) L) : XD P G F n ops kd σ Q ((j, .bool (decide p)) :: e) L := by
  by_cases hp : p
  · rw [decide_eq_true hp]; exact h1 hp
  · rw [decide_eq_false hp]; exact h2 hp
theorem XD_dec_t {j : Nat} {p : Prop} [Decidable p] (hp : p) (h1 : XD P G F n ops kd σ Q ((j, .bool true) :: e) L) : XD P G F n ops kd σ Q ((j, .bool (decide p)) :: e) L := by rw [decide_eq_true hp]; exact h1
theorem XD_dec_f {j : Nat} {p : Prop} [Decidable p] (hp : ¬ p) (h1 : XD P G F n ops kd σ Q ((j, .bool false) :: e) L) : XD P G F n ops kd σ Q ((j, .bool (decide p)) :: e) L := by rw [decide_eq_false hp]; exact h1
end
end Go.Cof
