/- Regions, as numbers. -/
import Derived.Test.YtpkffgbcebjhaaaSlR
import Derived.Test.YtpkffgbcebjhaaaTab
set_option linter.unusedVariables false
namespace Go.Proofs.Ytpkffgbcebjhaaa
open Go.RowKit Go.Cof

/-- A region: its first page, how many, its permission. -/
structure Rg where
  p : Int
  n : Int
  m : Int
  deriving DecidableEq, Inhabited
def encRg : Enc Rg := ⟨fun x => [.int .i64 x.p, .int .i64 x.n, .int .u8 x.m], 3, fun _ => rfl, by decide, fun x u hu => by simp at hu; rcases hu with rfl | rfl | rfl <;> rfl⟩
def Rg.end (r : Rg) : Int := r.p + r.n
/-- The numbers that its type lets in. -/
structure Rg.In (r : Rg) : Prop where
  p : -9223372036854775808 ≤ r.p ∧ r.p ≤ 9223372036854775807
  n : -9223372036854775808 ≤ r.n ∧ r.n ≤ 9223372036854775807
  m : 0 ≤ r.m ∧ r.m < 256
def pgs (p n : Int) : Bool := decide (1 ≤ p ∧ p < 1048576 ∧ 1 ≤ n ∧ n ≤ 1048576 - p)
def prm (m : Int) : Bool := decide (m = 0 ∨ m = 1 ∨ m = 3)
/-- Does b follow a in the one form? -/
def follows (a b : Rg) : Bool := !decide (b.p < a.end ∨ a.end = b.p ∧ a.m = b.m)
def okAt (l : List Rg) (i : Nat) : Bool := pgs (Cof.get l i).p (Cof.get l i).n && prm (Cof.get l i).m && (decide (i = 0) || follows (Cof.get l ((i : Int) - 1)) (Cof.get l i))
def checkE (l : List Rg) : Int := if 1024 < l.length then 3 else if (List.range l.length).all (okAt l) then 0 else 2
end Go.Proofs.Ytpkffgbcebjhaaa
