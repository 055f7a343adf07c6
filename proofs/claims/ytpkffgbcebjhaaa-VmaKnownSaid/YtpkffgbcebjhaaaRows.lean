/-
  No cell of these rows narrows 'for every input' (looked for: loops, veiled, ifaces, maps, wideKeys, modest, calm, conditions, laid).
  DERIVED. THE GIVEN ROWS OF THIS SEAT. 8 by the template 'for every input the law returns true; each argument reads behind the call as it read before'; 0 by the template 'total and deterministic' (their statements: YtpkffgbcebjhaaaTotals.lean).
  GIVEN WITH THE SEED: the statements are not yours to turn. If you find one false, say at which input.
  Laid BY PROGRAM, IN A SANDBOX (cutbox-rows.mjs): the forced cells as the released guide's own fill.sh prints them over the translation 38b69dbc61ad9e16… (all of the seat's roots in one cut). By AI agents, Wed Nov 11 2026. No macro, syntax, notation, axiom, sorry.
-/
import Derived.Test.YtpkffgbcebjhaaaChecked
import GoSem.Claim
import GoSem.ClaimJoined
import GoSem.ClaimMapViews
import Derived.JoinedTies
import Derived.KernelRfl
namespace Go.Proofs.Ytpkffgbcebjhaaa
/- THE CELL 'sum', in the pinned program and in every row, IS THE sha256 OF THE DUMP (.gsa) THAT YtpkffgbcebjhaaaProg.lean LOADS. Nothing in Lean hashes anything: it is a label: what it is worth is what the hold of that sum in a sandbox is worth. -/
noncomputable def Try.pinned : Pinned := { name := "ytpkffgbcebjhaaa", sum := "38b69dbc61ad9e161778e7921d49354ef810d30113f2f85e1dfc6fef1a084df3", checked := Try.checked }
namespace Rows
def none {H : Type} : Left H := { results := [], args := [] }

/-- 'cofferdamlaw17.VmaChanges': WHATEVER THE INPUT: true; the input reads as it did. -/
def vmaChangesSpec : ChangeSpec := { name := "vmaChanges", fn := fun _ => fun
  | [d1, d2] => { results := [.lit (.bool true)], args := [d1, d2] }
  | _ => none }
def vmaChangesRow : OpenClaim := { program := "ytpkffgbcebjhaaa", sum := "38b69dbc61ad9e161778e7921d49354ef810d30113f2f85e1dfc6fef1a084df3", func := "cofferdam/cofferdamlaw17.VmaChanges", spec := "vmaChanges", apart := false }
def VmaChangesSaid : Prop := vmaChangesRow.holds Try.pinned (OpenSpec.ofChange vmaChangesSpec)

/-- ITS FALSE NEIGHBOUR: 'it returns false'. Refute it at one input. -/
def vmaChangesWrong : ChangeSpec := { name := "vmaChanges", fn := fun _ => fun
  | [d1, d2] => { results := [.lit (.bool false)], args := [d1, d2] }
  | _ => none }
def VmaChangesWrongFalsely : Prop := vmaChangesRow.holds Try.pinned (OpenSpec.ofChange vmaChangesWrong)

/-- 'cofferdamlaw17.VmaGaps': WHATEVER THE INPUT: true; the input reads as it did. -/
def vmaGapsSpec : ChangeSpec := { name := "vmaGaps", fn := fun _ => fun
  | [d1, d2, d3] => { results := [.lit (.bool true)], args := [d1, d2, d3] }
  | _ => none }
def vmaGapsRow : OpenClaim := { program := "ytpkffgbcebjhaaa", sum := "38b69dbc61ad9e161778e7921d49354ef810d30113f2f85e1dfc6fef1a084df3", func := "cofferdam/cofferdamlaw17.VmaGaps", spec := "vmaGaps", apart := false }
def VmaGapsSaid : Prop := vmaGapsRow.holds Try.pinned (OpenSpec.ofChange vmaGapsSpec)

/-- ITS FALSE NEIGHBOUR: 'it returns false'. Refute it at one input. -/
def vmaGapsWrong : ChangeSpec := { name := "vmaGaps", fn := fun _ => fun
  | [d1, d2, d3] => { results := [.lit (.bool false)], args := [d1, d2, d3] }
  | _ => none }
def VmaGapsWrongFalsely : Prop := vmaGapsRow.holds Try.pinned (OpenSpec.ofChange vmaGapsWrong)

/-- 'cofferdamlaw17.VmaBack': WHATEVER THE INPUT: true; the input reads as it did. -/
def vmaBackSpec : ChangeSpec := { name := "vmaBack", fn := fun _ => fun
  | [d1, d2] => { results := [.lit (.bool true)], args := [d1, d2] }
  | _ => none }
def vmaBackRow : OpenClaim := { program := "ytpkffgbcebjhaaa", sum := "38b69dbc61ad9e161778e7921d49354ef810d30113f2f85e1dfc6fef1a084df3", func := "cofferdam/cofferdamlaw17.VmaBack", spec := "vmaBack", apart := false }
def VmaBackSaid : Prop := vmaBackRow.holds Try.pinned (OpenSpec.ofChange vmaBackSpec)

/-- ITS FALSE NEIGHBOUR: 'it returns false'. Refute it at one input. -/
def vmaBackWrong : ChangeSpec := { name := "vmaBack", fn := fun _ => fun
  | [d1, d2] => { results := [.lit (.bool false)], args := [d1, d2] }
  | _ => none }
def VmaBackWrongFalsely : Prop := vmaBackRow.holds Try.pinned (OpenSpec.ofChange vmaBackWrong)

/-- 'cofferdamlaw17.VmaLeast': WHATEVER THE INPUT: true; the input reads as it did. -/
def vmaLeastSpec : ChangeSpec := { name := "vmaLeast", fn := fun _ => fun
  | [d1, d2, d3] => { results := [.lit (.bool true)], args := [d1, d2, d3] }
  | _ => none }
def vmaLeastRow : OpenClaim := { program := "ytpkffgbcebjhaaa", sum := "38b69dbc61ad9e161778e7921d49354ef810d30113f2f85e1dfc6fef1a084df3", func := "cofferdam/cofferdamlaw17.VmaLeast", spec := "vmaLeast", apart := false }
def VmaLeastSaid : Prop := vmaLeastRow.holds Try.pinned (OpenSpec.ofChange vmaLeastSpec)

/-- ITS FALSE NEIGHBOUR: 'it returns false'. Refute it at one input. -/
def vmaLeastWrong : ChangeSpec := { name := "vmaLeast", fn := fun _ => fun
  | [d1, d2, d3] => { results := [.lit (.bool false)], args := [d1, d2, d3] }
  | _ => none }
def VmaLeastWrongFalsely : Prop := vmaLeastRow.holds Try.pinned (OpenSpec.ofChange vmaLeastWrong)

/-- 'cofferdamlaw17.VmaKnown': WHATEVER THE INPUT: true; the input reads as it did. -/
def vmaKnownSpec : ChangeSpec := { name := "vmaKnown", fn := fun _ => fun
  | [] => { results := [.lit (.bool true)], args := [] }
  | _ => none }
def vmaKnownRow : OpenClaim := { program := "ytpkffgbcebjhaaa", sum := "38b69dbc61ad9e161778e7921d49354ef810d30113f2f85e1dfc6fef1a084df3", func := "cofferdam/cofferdamlaw17.VmaKnown", spec := "vmaKnown", apart := false }
def VmaKnownSaid : Prop := vmaKnownRow.holds Try.pinned (OpenSpec.ofChange vmaKnownSpec)

/-- ITS FALSE NEIGHBOUR: 'it returns false'. Refute it at one input. -/
def vmaKnownWrong : ChangeSpec := { name := "vmaKnown", fn := fun _ => fun
  | [] => { results := [.lit (.bool false)], args := [] }
  | _ => none }
def VmaKnownWrongFalsely : Prop := vmaKnownRow.holds Try.pinned (OpenSpec.ofChange vmaKnownWrong)

/-- 'cofferdamlaw17.VmaOrder': WHATEVER THE INPUT: true; the input reads as it did. -/
def vmaOrderSpec : ChangeSpec := { name := "vmaOrder", fn := fun _ => fun
  | [d1, d2, d3] => { results := [.lit (.bool true)], args := [d1, d2, d3] }
  | _ => none }
def vmaOrderRow : OpenClaim := { program := "ytpkffgbcebjhaaa", sum := "38b69dbc61ad9e161778e7921d49354ef810d30113f2f85e1dfc6fef1a084df3", func := "cofferdam/cofferdamlaw17.VmaOrder", spec := "vmaOrder", apart := false }
def VmaOrderSaid : Prop := vmaOrderRow.holds Try.pinned (OpenSpec.ofChange vmaOrderSpec)

/-- ITS FALSE NEIGHBOUR: 'it returns false'. Refute it at one input. -/
def vmaOrderWrong : ChangeSpec := { name := "vmaOrder", fn := fun _ => fun
  | [d1, d2, d3] => { results := [.lit (.bool false)], args := [d1, d2, d3] }
  | _ => none }
def VmaOrderWrongFalsely : Prop := vmaOrderRow.holds Try.pinned (OpenSpec.ofChange vmaOrderWrong)

/-- 'cofferdamlaw17.VmaPages': WHATEVER THE INPUT: true; the input reads as it did. -/
def vmaPagesSpec : ChangeSpec := { name := "vmaPages", fn := fun _ => fun
  | [d] => { results := [.lit (.bool true)], args := [d] }
  | _ => none }
def vmaPagesRow : OpenClaim := { program := "ytpkffgbcebjhaaa", sum := "38b69dbc61ad9e161778e7921d49354ef810d30113f2f85e1dfc6fef1a084df3", func := "cofferdam/cofferdamlaw17.VmaPages", spec := "vmaPages", apart := false }
def VmaPagesSaid : Prop := vmaPagesRow.holds Try.pinned (OpenSpec.ofChange vmaPagesSpec)

/-- ITS FALSE NEIGHBOUR: 'it returns false'. Refute it at one input. -/
def vmaPagesWrong : ChangeSpec := { name := "vmaPages", fn := fun _ => fun
  | [d] => { results := [.lit (.bool false)], args := [d] }
  | _ => none }
def VmaPagesWrongFalsely : Prop := vmaPagesRow.holds Try.pinned (OpenSpec.ofChange vmaPagesWrong)

/-- 'cofferdamlaw17.VmaTells': WHATEVER THE INPUT: true; the input reads as it did. -/
def vmaTellsSpec : ChangeSpec := { name := "vmaTells", fn := fun _ => fun
  | [d1, d2] => { results := [.lit (.bool true)], args := [d1, d2] }
  | _ => none }
def vmaTellsRow : OpenClaim := { program := "ytpkffgbcebjhaaa", sum := "38b69dbc61ad9e161778e7921d49354ef810d30113f2f85e1dfc6fef1a084df3", func := "cofferdam/cofferdamlaw17.VmaTells", spec := "vmaTells", apart := false }
def VmaTellsSaid : Prop := vmaTellsRow.holds Try.pinned (OpenSpec.ofChange vmaTellsSpec)

/-- ITS FALSE NEIGHBOUR: 'it returns false'. Refute it at one input. -/
def vmaTellsWrong : ChangeSpec := { name := "vmaTells", fn := fun _ => fun
  | [d1, d2] => { results := [.lit (.bool false)], args := [d1, d2] }
  | _ => none }
def VmaTellsWrongFalsely : Prop := vmaTellsRow.holds Try.pinned (OpenSpec.ofChange vmaTellsWrong)

/- THE SECOND FORM. 'bulk': how many values and letters a reading holds, each counted each time it is reached (what is shared counts as often as it is met; a slice's spare places count too). A statement '..UptoSaid' is the law's where the arguments, and the package variables that the reading takes, are together of bulk at most 1048576: NARROWER than '..Said'. Prove '..Said' where nothing that the law and all that it calls make is longer than what came in: it says more and counts as full. Else prove '..UptoSaid'. A law counts once. -/
mutual
def uptoBulk {H : Type} : DataW H → Nat
  | .lit (.string bytes) => bytes.length + 1
  | .lit _ => 1
  | .nil => 1
  | .ptr d => uptoBulk d + 1
  | .slice elems spare => uptoBulkAll elems + uptoBulkAll spare + 1
  | .agg parts => uptoBulkAll parts + 1
  | .iface _ d => uptoBulk d + 1
  | .map entries => uptoBulkEntries entries + 1
  | .held _ => 1
def uptoBulkAll {H : Type} : List (DataW H) → Nat
  | [] => 0
  | d :: r => uptoBulk d + uptoBulkAll r
def uptoBulkEntries {H : Type} : List (Lit × DataW H) → Nat
  | [] => 0
  | x :: r => uptoBulkEntry x + uptoBulkEntries r
def uptoBulkEntry {H : Type} : Lit × DataW H → Nat
  | (.string bytes, d) => bytes.length + uptoBulk d + 1
  | (_, d) => uptoBulk d + 1
 end
def uptoSmall : (H : Type) → List (DataW H) → Bool := fun _ ds => decide (uptoBulkAll ds ≤ 1048576)
def OpenSpec.upto (s : _root_.Go.ChangeSpec) : _root_.Go.OpenSpec := { _root_.Go.OpenSpec.ofChange s with cond := some uptoSmall }

/-- 'cofferdamlaw17.VmaChanges', WHERE WHAT IT READS IS OF BULK AT MOST 1048576: true; the input reads as it did. -/
def vmaChangesUptoRow : OpenClaim := { program := "ytpkffgbcebjhaaa", sum := "38b69dbc61ad9e161778e7921d49354ef810d30113f2f85e1dfc6fef1a084df3", func := "cofferdam/cofferdamlaw17.VmaChanges", spec := "vmaChanges", apart := false, narrowed := true }
def VmaChangesUptoSaid : Prop := vmaChangesUptoRow.holds Try.pinned (OpenSpec.upto vmaChangesSpec)

/-- 'cofferdamlaw17.VmaGaps', WHERE WHAT IT READS IS OF BULK AT MOST 1048576: true; the input reads as it did. -/
def vmaGapsUptoRow : OpenClaim := { program := "ytpkffgbcebjhaaa", sum := "38b69dbc61ad9e161778e7921d49354ef810d30113f2f85e1dfc6fef1a084df3", func := "cofferdam/cofferdamlaw17.VmaGaps", spec := "vmaGaps", apart := false, narrowed := true }
def VmaGapsUptoSaid : Prop := vmaGapsUptoRow.holds Try.pinned (OpenSpec.upto vmaGapsSpec)

/-- 'cofferdamlaw17.VmaBack', WHERE WHAT IT READS IS OF BULK AT MOST 1048576: true; the input reads as it did. -/
def vmaBackUptoRow : OpenClaim := { program := "ytpkffgbcebjhaaa", sum := "38b69dbc61ad9e161778e7921d49354ef810d30113f2f85e1dfc6fef1a084df3", func := "cofferdam/cofferdamlaw17.VmaBack", spec := "vmaBack", apart := false, narrowed := true }
def VmaBackUptoSaid : Prop := vmaBackUptoRow.holds Try.pinned (OpenSpec.upto vmaBackSpec)

/-- 'cofferdamlaw17.VmaLeast', WHERE WHAT IT READS IS OF BULK AT MOST 1048576: true; the input reads as it did. -/
def vmaLeastUptoRow : OpenClaim := { program := "ytpkffgbcebjhaaa", sum := "38b69dbc61ad9e161778e7921d49354ef810d30113f2f85e1dfc6fef1a084df3", func := "cofferdam/cofferdamlaw17.VmaLeast", spec := "vmaLeast", apart := false, narrowed := true }
def VmaLeastUptoSaid : Prop := vmaLeastUptoRow.holds Try.pinned (OpenSpec.upto vmaLeastSpec)

/-- 'cofferdamlaw17.VmaKnown', WHERE WHAT IT READS IS OF BULK AT MOST 1048576: true; the input reads as it did. -/
def vmaKnownUptoRow : OpenClaim := { program := "ytpkffgbcebjhaaa", sum := "38b69dbc61ad9e161778e7921d49354ef810d30113f2f85e1dfc6fef1a084df3", func := "cofferdam/cofferdamlaw17.VmaKnown", spec := "vmaKnown", apart := false, narrowed := true }
def VmaKnownUptoSaid : Prop := vmaKnownUptoRow.holds Try.pinned (OpenSpec.upto vmaKnownSpec)

/-- 'cofferdamlaw17.VmaOrder', WHERE WHAT IT READS IS OF BULK AT MOST 1048576: true; the input reads as it did. -/
def vmaOrderUptoRow : OpenClaim := { program := "ytpkffgbcebjhaaa", sum := "38b69dbc61ad9e161778e7921d49354ef810d30113f2f85e1dfc6fef1a084df3", func := "cofferdam/cofferdamlaw17.VmaOrder", spec := "vmaOrder", apart := false, narrowed := true }
def VmaOrderUptoSaid : Prop := vmaOrderUptoRow.holds Try.pinned (OpenSpec.upto vmaOrderSpec)

/-- 'cofferdamlaw17.VmaPages', WHERE WHAT IT READS IS OF BULK AT MOST 1048576: true; the input reads as it did. -/
def vmaPagesUptoRow : OpenClaim := { program := "ytpkffgbcebjhaaa", sum := "38b69dbc61ad9e161778e7921d49354ef810d30113f2f85e1dfc6fef1a084df3", func := "cofferdam/cofferdamlaw17.VmaPages", spec := "vmaPages", apart := false, narrowed := true }
def VmaPagesUptoSaid : Prop := vmaPagesUptoRow.holds Try.pinned (OpenSpec.upto vmaPagesSpec)

/-- 'cofferdamlaw17.VmaTells', WHERE WHAT IT READS IS OF BULK AT MOST 1048576: true; the input reads as it did. -/
def vmaTellsUptoRow : OpenClaim := { program := "ytpkffgbcebjhaaa", sum := "38b69dbc61ad9e161778e7921d49354ef810d30113f2f85e1dfc6fef1a084df3", func := "cofferdam/cofferdamlaw17.VmaTells", spec := "vmaTells", apart := false, narrowed := true }
def VmaTellsUptoSaid : Prop := vmaTellsUptoRow.holds Try.pinned (OpenSpec.upto vmaTellsSpec)

end Rows
end Go.Proofs.Ytpkffgbcebjhaaa
