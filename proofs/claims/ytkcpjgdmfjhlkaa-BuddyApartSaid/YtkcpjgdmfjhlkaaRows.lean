/-
  No cell of these rows narrows 'for every input' (looked for: loops, veiled, ifaces, maps, wideKeys, modest, calm, conditions, laid).
  DERIVED. THE GIVEN ROWS OF THIS SEAT. 4 by the template 'for every input the law returns true; each argument reads behind the call as it read before'; 0 by the template 'total and deterministic' (their statements: YtkcpjgdmfjhlkaaTotals.lean).
  GIVEN WITH THE SEED: the statements are not yours to turn. If you find one false, say at which input.
  Laid BY PROGRAM, IN A SANDBOX (cutbox-rows.mjs): the forced cells as the released guide's own fill.sh prints them over the translation f1370f6653627c56… (all of the seat's roots in one cut). By AI agents, Wed Nov 11 2026. No macro, syntax, notation, axiom, sorry.
-/
import Derived.Test.YtkcpjgdmfjhlkaaChecked
import GoSem.Claim
import GoSem.ClaimJoined
import GoSem.ClaimMapViews
import Derived.JoinedTies
import Derived.KernelRfl
namespace Go.Proofs.Ytkcpjgdmfjhlkaa
/- THE CELL 'sum', in the pinned program and in every row, IS THE sha256 OF THE DUMP (.gsa) THAT YtkcpjgdmfjhlkaaProg.lean LOADS. Nothing in Lean hashes anything: it is a label: what it is worth is what the hold of that sum in a sandbox is worth. -/
noncomputable def Try.pinned : Pinned := { name := "ytkcpjgdmfjhlkaa", sum := "f1370f6653627c56b3af635effae8220ecb88315e14cda8b68980d96d551396c", checked := Try.checked }
namespace Rows
def none {H : Type} : Left H := { results := [], args := [] }

/-- 'cofferdamlaw09.BuddyPlays': WHATEVER THE INPUT: true; the input reads as it did. -/
def buddyPlaysSpec : ChangeSpec := { name := "buddyPlays", fn := fun _ => fun
  | [d1, d2] => { results := [.lit (.bool true)], args := [d1, d2] }
  | _ => none }
def buddyPlaysRow : OpenClaim := { program := "ytkcpjgdmfjhlkaa", sum := "f1370f6653627c56b3af635effae8220ecb88315e14cda8b68980d96d551396c", func := "cofferdam/cofferdamlaw09.BuddyPlays", spec := "buddyPlays", inPlace := ["slices.overlaps[int]"], apart := false }
def BuddyPlaysSaid : Prop := buddyPlaysRow.holds Try.pinned (OpenSpec.ofChange buddyPlaysSpec)

/-- ITS FALSE NEIGHBOUR: 'it returns false'. Refute it at one input. -/
def buddyPlaysWrong : ChangeSpec := { name := "buddyPlays", fn := fun _ => fun
  | [d1, d2] => { results := [.lit (.bool false)], args := [d1, d2] }
  | _ => none }
def BuddyPlaysWrongFalsely : Prop := buddyPlaysRow.holds Try.pinned (OpenSpec.ofChange buddyPlaysWrong)

/-- 'cofferdamlaw09.BuddyApart': WHATEVER THE INPUT: true; the input reads as it did. -/
def buddyApartSpec : ChangeSpec := { name := "buddyApart", fn := fun _ => fun
  | [d1, d2, d3] => { results := [.lit (.bool true)], args := [d1, d2, d3] }
  | _ => none }
def buddyApartRow : OpenClaim := { program := "ytkcpjgdmfjhlkaa", sum := "f1370f6653627c56b3af635effae8220ecb88315e14cda8b68980d96d551396c", func := "cofferdam/cofferdamlaw09.BuddyApart", spec := "buddyApart", inPlace := ["slices.overlaps[int]"], apart := false }
def BuddyApartSaid : Prop := buddyApartRow.holds Try.pinned (OpenSpec.ofChange buddyApartSpec)

/-- ITS FALSE NEIGHBOUR: 'it returns false'. Refute it at one input. -/
def buddyApartWrong : ChangeSpec := { name := "buddyApart", fn := fun _ => fun
  | [d1, d2, d3] => { results := [.lit (.bool false)], args := [d1, d2, d3] }
  | _ => none }
def BuddyApartWrongFalsely : Prop := buddyApartRow.holds Try.pinned (OpenSpec.ofChange buddyApartWrong)

/-- 'cofferdamlaw09.BuddyNames': WHATEVER THE INPUT: true; the input reads as it did. -/
def buddyNamesSpec : ChangeSpec := { name := "buddyNames", fn := fun _ => fun
  | [] => { results := [.lit (.bool true)], args := [] }
  | _ => none }
def buddyNamesRow : OpenClaim := { program := "ytkcpjgdmfjhlkaa", sum := "f1370f6653627c56b3af635effae8220ecb88315e14cda8b68980d96d551396c", func := "cofferdam/cofferdamlaw09.BuddyNames", spec := "buddyNames", inPlace := ["slices.overlaps[int]"], apart := false }
def BuddyNamesSaid : Prop := buddyNamesRow.holds Try.pinned (OpenSpec.ofChange buddyNamesSpec)

/-- ITS FALSE NEIGHBOUR: 'it returns false'. Refute it at one input. -/
def buddyNamesWrong : ChangeSpec := { name := "buddyNames", fn := fun _ => fun
  | [] => { results := [.lit (.bool false)], args := [] }
  | _ => none }
def BuddyNamesWrongFalsely : Prop := buddyNamesRow.holds Try.pinned (OpenSpec.ofChange buddyNamesWrong)

/-- 'cofferdamlaw09.BuddyBack': WHATEVER THE INPUT: true; the input reads as it did. -/
def buddyBackSpec : ChangeSpec := { name := "buddyBack", fn := fun _ => fun
  | [d1, d2, d3] => { results := [.lit (.bool true)], args := [d1, d2, d3] }
  | _ => none }
def buddyBackRow : OpenClaim := { program := "ytkcpjgdmfjhlkaa", sum := "f1370f6653627c56b3af635effae8220ecb88315e14cda8b68980d96d551396c", func := "cofferdam/cofferdamlaw09.BuddyBack", spec := "buddyBack", inPlace := ["slices.overlaps[int]"], apart := false }
def BuddyBackSaid : Prop := buddyBackRow.holds Try.pinned (OpenSpec.ofChange buddyBackSpec)

/-- ITS FALSE NEIGHBOUR: 'it returns false'. Refute it at one input. -/
def buddyBackWrong : ChangeSpec := { name := "buddyBack", fn := fun _ => fun
  | [d1, d2, d3] => { results := [.lit (.bool false)], args := [d1, d2, d3] }
  | _ => none }
def BuddyBackWrongFalsely : Prop := buddyBackRow.holds Try.pinned (OpenSpec.ofChange buddyBackWrong)

/- THE SECOND FORM. 'bulk': how many values and letters a reading holds, each counted each time it is reached (what is shared counts as often as it is met; a slice's spare places count too). A statement '..UptoSaid' is the law's where the arguments, and the package variables that the reading takes, are together of bulk at most 1048576: NARROWER than '..Said'. Prove '..Said' where nothing that the law and all that it calls make is longer than what came in: it says more and counts as full. Else prove '..UptoSaid'. A law counts once. -/
mutual
def uptoBulk {H : Type} : DataW H → Nat
  | .lit (.string bytes) => bytes.length + 1
  | .lit _ => 1
  | .nil => 1
  | .ptr d => uptoBulk d + 1
  | .slice elems spare => uptoBulkAll elems + uptoBulkAll spare + 1
  | .agg parts => uptoBulkAll parts + 1
  | .iface _ d => uptoBulk d + 1
  | .map entries => uptoBulkEntries entries + 1
  | .held _ => 1
def uptoBulkAll {H : Type} : List (DataW H) → Nat
  | [] => 0
  | d :: r => uptoBulk d + uptoBulkAll r
def uptoBulkEntries {H : Type} : List (Lit × DataW H) → Nat
  | [] => 0
  | x :: r => uptoBulkEntry x + uptoBulkEntries r
def uptoBulkEntry {H : Type} : Lit × DataW H → Nat
  | (.string bytes, d) => bytes.length + uptoBulk d + 1
  | (_, d) => uptoBulk d + 1
 end
def uptoSmall : (H : Type) → List (DataW H) → Bool := fun _ ds => decide (uptoBulkAll ds ≤ 1048576)
def OpenSpec.upto (s : _root_.Go.ChangeSpec) : _root_.Go.OpenSpec := { _root_.Go.OpenSpec.ofChange s with cond := some uptoSmall }

/-- 'cofferdamlaw09.BuddyPlays', WHERE WHAT IT READS IS OF BULK AT MOST 1048576: true; the input reads as it did. -/
def buddyPlaysUptoRow : OpenClaim := { program := "ytkcpjgdmfjhlkaa", sum := "f1370f6653627c56b3af635effae8220ecb88315e14cda8b68980d96d551396c", func := "cofferdam/cofferdamlaw09.BuddyPlays", spec := "buddyPlays", inPlace := ["slices.overlaps[int]"], apart := false, narrowed := true }
def BuddyPlaysUptoSaid : Prop := buddyPlaysUptoRow.holds Try.pinned (OpenSpec.upto buddyPlaysSpec)

/-- 'cofferdamlaw09.BuddyApart', WHERE WHAT IT READS IS OF BULK AT MOST 1048576: true; the input reads as it did. -/
def buddyApartUptoRow : OpenClaim := { program := "ytkcpjgdmfjhlkaa", sum := "f1370f6653627c56b3af635effae8220ecb88315e14cda8b68980d96d551396c", func := "cofferdam/cofferdamlaw09.BuddyApart", spec := "buddyApart", inPlace := ["slices.overlaps[int]"], apart := false, narrowed := true }
def BuddyApartUptoSaid : Prop := buddyApartUptoRow.holds Try.pinned (OpenSpec.upto buddyApartSpec)

/-- 'cofferdamlaw09.BuddyNames', WHERE WHAT IT READS IS OF BULK AT MOST 1048576: true; the input reads as it did. -/
def buddyNamesUptoRow : OpenClaim := { program := "ytkcpjgdmfjhlkaa", sum := "f1370f6653627c56b3af635effae8220ecb88315e14cda8b68980d96d551396c", func := "cofferdam/cofferdamlaw09.BuddyNames", spec := "buddyNames", inPlace := ["slices.overlaps[int]"], apart := false, narrowed := true }
def BuddyNamesUptoSaid : Prop := buddyNamesUptoRow.holds Try.pinned (OpenSpec.upto buddyNamesSpec)

/-- 'cofferdamlaw09.BuddyBack', WHERE WHAT IT READS IS OF BULK AT MOST 1048576: true; the input reads as it did. -/
def buddyBackUptoRow : OpenClaim := { program := "ytkcpjgdmfjhlkaa", sum := "f1370f6653627c56b3af635effae8220ecb88315e14cda8b68980d96d551396c", func := "cofferdam/cofferdamlaw09.BuddyBack", spec := "buddyBack", inPlace := ["slices.overlaps[int]"], apart := false, narrowed := true }
def BuddyBackUptoSaid : Prop := buddyBackUptoRow.holds Try.pinned (OpenSpec.upto buddyBackSpec)

end Rows
end Go.Proofs.Ytkcpjgdmfjhlkaa
