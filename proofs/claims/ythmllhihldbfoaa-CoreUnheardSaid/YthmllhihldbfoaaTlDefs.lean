/- Translations; the library's functions over slices of them. -/
import Derived.Test.YthmllhihldbfoaaTab
set_option linter.unusedVariables false
namespace Go.Proofs.Ythmllhihldbfoaa.Tl
open Go.RowKit Go.Cof

/-- A translation. -/
structure Tr where
  a : Int
  p : Int
  f : Int
  r : Bool
  w : Bool
  d : Bool
  deriving DecidableEq, Inhabited
def encTr : Enc Tr := ⟨fun x => [.int .i64 x.a, .int .i64 x.p, .int .i64 x.f, .bool x.r, .bool x.w, .bool x.d], 6, fun _ => rfl, by decide, fun x u hu => by simp at hu; rcases hu with rfl | rfl | rfl | rfl | rfl | rfl <;> rfl⟩
abbrev trV (x : Tr) : Value := .agg #[.int .i64 x.a, .int .i64 x.p, .int .i64 x.f, .bool x.r, .bool x.w, .bool x.d]
def tr0 : Tr := ⟨0, 0, 0, false, false, false⟩
/-- A key. -/
structure Ky where
  a : Int
  p : Int
  deriving DecidableEq, Inhabited
def encKy : Enc Ky := ⟨fun x => [.int .i64 x.a, .int .i64 x.p], 2, fun _ => rfl, by decide, fun x u hu => by simp at hu; rcases hu with rfl | rfl <;> rfl⟩
abbrev kyV (a p : Int) : Value := .agg #[.int .i64 a, .int .i64 p]
abbrev kyB (b : Nat) (a p : Int) : HProp := blk b [.int .i64 a, .int .i64 p] 86
theorem eqTr : EqE Try.prog Tt 60 encTr := EqE.ofT tt_ok [60] (by decide +kernel) (by kernel_rfl) 3 rfl fun a b => by
  show some (decide (a.a = b.a) && (decide (a.p = b.p) && (decide (a.f = b.f) && ((a.r == b.r) && ((a.w == b.w) && ((a.d == b.d) && true)))))) = _
  refine congrArg some ?_
  obtain ⟨a1, p1, f1, r1, w1, d1⟩ := a
  obtain ⟨a2, p2, f2, r2, w2, d2⟩ := b
  by_cases h1 : a1 = a2 <;> by_cases h2 : p1 = p2 <;> by_cases h3 : f1 = f2 <;> cases r1 <;> cases r2 <;> cases w1 <;> cases w2 <;> cases d1 <;> cases d2 <;> simp [h1, h2, h3]
theorem eqKy : EqE Try.prog Tt 86 encKy := EqE.ofT tt_ok [86] (by decide +kernel) (by kernel_rfl) 3 rfl fun a b => by
  show some (decide (a.a = b.a) && (decide (a.p = b.p) && true)) = _
  refine congrArg some ?_
  obtain ⟨a1, p1⟩ := a
  obtain ⟨a2, p2⟩ := b
  by_cases h1 : a1 = a2 <;> by_cases h2 : p1 = p2 <;> simp [h1, h2]
def kB (a p : Int) (x : Tr) : Bool := decide (x.a = a ∧ x.p = p)
theorem kB_iff {a p : Int} {x : Tr} : kB a p x = true ↔ x.a = a ∧ x.p = p := by unfold kB; simp
theorem ky_dec (x : Tr) (a p : Int) : decide ((⟨x.a, x.p⟩ : Ky) = ⟨a, p⟩) = kB a p x := by unfold kB; simp [Ky.mk.injEq]
end Go.Proofs.Ythmllhihldbfoaa.Tl
