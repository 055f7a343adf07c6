/-
  No cell of these rows narrows 'for every input' (looked for: loops, veiled, ifaces, maps, wideKeys, modest, calm, conditions, laid).
  DERIVED. THE GIVEN ROWS OF THIS SEAT. 8 by the template 'for every input the law returns true; each argument reads behind the call as it read before'; 0 by the template 'total and deterministic' (their statements: YtgoebgefhgffcaaTotals.lean).
  GIVEN WITH THE SEED: the statements are not yours to turn. If you find one false, say at which input.
  Laid BY PROGRAM, IN A SANDBOX (cutbox-rows.mjs): the forced cells as the released guide's own fill.sh prints them over the translation f4e844bb0100959d… (all of the seat's roots in one cut). By AI agents, Wed Nov 11 2026. No macro, syntax, notation, axiom, sorry.
-/
import Derived.Test.YtgoebgefhgffcaaChecked
import GoSem.Claim
import GoSem.ClaimJoined
import GoSem.ClaimMapViews
import Derived.JoinedTies
import Derived.KernelRfl
namespace Go.Proofs.Ytgoebgefhgffcaa
/- THE CELL 'sum', in the pinned program and in every row, IS THE sha256 OF THE DUMP (.gsa) THAT YtgoebgefhgffcaaProg.lean LOADS. Nothing in Lean hashes anything: it is a label: what it is worth is what the hold of that sum in a sandbox is worth. -/
noncomputable def Try.pinned : Pinned := { name := "ytgoebgefhgffcaa", sum := "f4e844bb0100959d910ac35a7238b8ded21df2c9eb90d67c20d37e6e26849feb", checked := Try.checked }
namespace Rows
def none {H : Type} : Left H := { results := [], args := [] }

/-- 'cofferdamlaw01.AddrSplits': WHATEVER THE INPUT: true; the input reads as it did. -/
def addrSplitsSpec : ChangeSpec := { name := "addrSplits", fn := fun _ => fun
  | [d1, d2, d3] => { results := [.lit (.bool true)], args := [d1, d2, d3] }
  | _ => none }
def addrSplitsRow : OpenClaim := { program := "ytgoebgefhgffcaa", sum := "f4e844bb0100959d910ac35a7238b8ded21df2c9eb90d67c20d37e6e26849feb", func := "cofferdam/cofferdamlaw01.AddrSplits", spec := "addrSplits", unfollowed := true, recurses := true, apart := false }
def AddrSplitsSaid : Prop := addrSplitsRow.holds Try.pinned (OpenSpec.ofChange addrSplitsSpec)

/-- ITS FALSE NEIGHBOUR: 'it returns false'. Refute it at one input. -/
def addrSplitsWrong : ChangeSpec := { name := "addrSplits", fn := fun _ => fun
  | [d1, d2, d3] => { results := [.lit (.bool false)], args := [d1, d2, d3] }
  | _ => none }
def AddrSplitsWrongFalsely : Prop := addrSplitsRow.holds Try.pinned (OpenSpec.ofChange addrSplitsWrong)

/-- 'cofferdamlaw01.AddrIndexes': WHATEVER THE INPUT: true; the input reads as it did. -/
def addrIndexesSpec : ChangeSpec := { name := "addrIndexes", fn := fun _ => fun
  | [d1, d2] => { results := [.lit (.bool true)], args := [d1, d2] }
  | _ => none }
def addrIndexesRow : OpenClaim := { program := "ytgoebgefhgffcaa", sum := "f4e844bb0100959d910ac35a7238b8ded21df2c9eb90d67c20d37e6e26849feb", func := "cofferdam/cofferdamlaw01.AddrIndexes", spec := "addrIndexes", unfollowed := true, recurses := true, apart := false }
def AddrIndexesSaid : Prop := addrIndexesRow.holds Try.pinned (OpenSpec.ofChange addrIndexesSpec)

/-- ITS FALSE NEIGHBOUR: 'it returns false'. Refute it at one input. -/
def addrIndexesWrong : ChangeSpec := { name := "addrIndexes", fn := fun _ => fun
  | [d1, d2] => { results := [.lit (.bool false)], args := [d1, d2] }
  | _ => none }
def AddrIndexesWrongFalsely : Prop := addrIndexesRow.holds Try.pinned (OpenSpec.ofChange addrIndexesWrong)

/-- 'cofferdamlaw01.AddrTables': WHATEVER THE INPUT: true; the input reads as it did. -/
def addrTablesSpec : ChangeSpec := { name := "addrTables", fn := fun _ => fun
  | [d] => { results := [.lit (.bool true)], args := [d] }
  | _ => none }
def addrTablesRow : OpenClaim := { program := "ytgoebgefhgffcaa", sum := "f4e844bb0100959d910ac35a7238b8ded21df2c9eb90d67c20d37e6e26849feb", func := "cofferdam/cofferdamlaw01.AddrTables", spec := "addrTables", unfollowed := true, recurses := true, apart := false }
def AddrTablesSaid : Prop := addrTablesRow.holds Try.pinned (OpenSpec.ofChange addrTablesSpec)

/-- ITS FALSE NEIGHBOUR: 'it returns false'. Refute it at one input. -/
def addrTablesWrong : ChangeSpec := { name := "addrTables", fn := fun _ => fun
  | [d] => { results := [.lit (.bool false)], args := [d] }
  | _ => none }
def AddrTablesWrongFalsely : Prop := addrTablesRow.holds Try.pinned (OpenSpec.ofChange addrTablesWrong)

/-- 'cofferdamlaw01.AddrFew': WHATEVER THE INPUT: true; the input reads as it did. -/
def addrFewSpec : ChangeSpec := { name := "addrFew", fn := fun _ => fun
  | [d1, d2, d3] => { results := [.lit (.bool true)], args := [d1, d2, d3] }
  | _ => none }
def addrFewRow : OpenClaim := { program := "ytgoebgefhgffcaa", sum := "f4e844bb0100959d910ac35a7238b8ded21df2c9eb90d67c20d37e6e26849feb", func := "cofferdam/cofferdamlaw01.AddrFew", spec := "addrFew", unfollowed := true, recurses := true, apart := false }
def AddrFewSaid : Prop := addrFewRow.holds Try.pinned (OpenSpec.ofChange addrFewSpec)

/-- ITS FALSE NEIGHBOUR: 'it returns false'. Refute it at one input. -/
def addrFewWrong : ChangeSpec := { name := "addrFew", fn := fun _ => fun
  | [d1, d2, d3] => { results := [.lit (.bool false)], args := [d1, d2, d3] }
  | _ => none }
def AddrFewWrongFalsely : Prop := addrFewRow.holds Try.pinned (OpenSpec.ofChange addrFewWrong)

/-- 'cofferdamlaw01.AddrRuns': WHATEVER THE INPUT: true; the input reads as it did. -/
def addrRunsSpec : ChangeSpec := { name := "addrRuns", fn := fun _ => fun
  | [d1, d2] => { results := [.lit (.bool true)], args := [d1, d2] }
  | _ => none }
def addrRunsRow : OpenClaim := { program := "ytgoebgefhgffcaa", sum := "f4e844bb0100959d910ac35a7238b8ded21df2c9eb90d67c20d37e6e26849feb", func := "cofferdam/cofferdamlaw01.AddrRuns", spec := "addrRuns", unfollowed := true, recurses := true, apart := false }
def AddrRunsSaid : Prop := addrRunsRow.holds Try.pinned (OpenSpec.ofChange addrRunsSpec)

/-- ITS FALSE NEIGHBOUR: 'it returns false'. Refute it at one input. -/
def addrRunsWrong : ChangeSpec := { name := "addrRuns", fn := fun _ => fun
  | [d1, d2] => { results := [.lit (.bool false)], args := [d1, d2] }
  | _ => none }
def AddrRunsWrongFalsely : Prop := addrRunsRow.holds Try.pinned (OpenSpec.ofChange addrRunsWrong)

/-- 'cofferdamlaw01.AddrPlaces': WHATEVER THE INPUT: true; the input reads as it did. -/
def addrPlacesSpec : ChangeSpec := { name := "addrPlaces", fn := fun _ => fun
  | [d1, d2, d3] => { results := [.lit (.bool true)], args := [d1, d2, d3] }
  | _ => none }
def addrPlacesRow : OpenClaim := { program := "ytgoebgefhgffcaa", sum := "f4e844bb0100959d910ac35a7238b8ded21df2c9eb90d67c20d37e6e26849feb", func := "cofferdam/cofferdamlaw01.AddrPlaces", spec := "addrPlaces", unfollowed := true, recurses := true, apart := false }
def AddrPlacesSaid : Prop := addrPlacesRow.holds Try.pinned (OpenSpec.ofChange addrPlacesSpec)

/-- ITS FALSE NEIGHBOUR: 'it returns false'. Refute it at one input. -/
def addrPlacesWrong : ChangeSpec := { name := "addrPlaces", fn := fun _ => fun
  | [d1, d2, d3] => { results := [.lit (.bool false)], args := [d1, d2, d3] }
  | _ => none }
def AddrPlacesWrongFalsely : Prop := addrPlacesRow.holds Try.pinned (OpenSpec.ofChange addrPlacesWrong)

/-- 'cofferdamlaw01.AddrBack': WHATEVER THE INPUT: true; the input reads as it did. -/
def addrBackSpec : ChangeSpec := { name := "addrBack", fn := fun _ => fun
  | [d1, d2, d3] => { results := [.lit (.bool true)], args := [d1, d2, d3] }
  | _ => none }
def addrBackRow : OpenClaim := { program := "ytgoebgefhgffcaa", sum := "f4e844bb0100959d910ac35a7238b8ded21df2c9eb90d67c20d37e6e26849feb", func := "cofferdam/cofferdamlaw01.AddrBack", spec := "addrBack", unfollowed := true, recurses := true, apart := false }
def AddrBackSaid : Prop := addrBackRow.holds Try.pinned (OpenSpec.ofChange addrBackSpec)

/-- ITS FALSE NEIGHBOUR: 'it returns false'. Refute it at one input. -/
def addrBackWrong : ChangeSpec := { name := "addrBack", fn := fun _ => fun
  | [d1, d2, d3] => { results := [.lit (.bool false)], args := [d1, d2, d3] }
  | _ => none }
def AddrBackWrongFalsely : Prop := addrBackRow.holds Try.pinned (OpenSpec.ofChange addrBackWrong)

/-- 'cofferdamlaw01.AddrKnown': WHATEVER THE INPUT: true; the input reads as it did. -/
def addrKnownSpec : ChangeSpec := { name := "addrKnown", fn := fun _ => fun
  | [] => { results := [.lit (.bool true)], args := [] }
  | _ => none }
def addrKnownRow : OpenClaim := { program := "ytgoebgefhgffcaa", sum := "f4e844bb0100959d910ac35a7238b8ded21df2c9eb90d67c20d37e6e26849feb", func := "cofferdam/cofferdamlaw01.AddrKnown", spec := "addrKnown", unfollowed := true, recurses := true, apart := false }
def AddrKnownSaid : Prop := addrKnownRow.holds Try.pinned (OpenSpec.ofChange addrKnownSpec)

/-- ITS FALSE NEIGHBOUR: 'it returns false'. Refute it at one input. -/
def addrKnownWrong : ChangeSpec := { name := "addrKnown", fn := fun _ => fun
  | [] => { results := [.lit (.bool false)], args := [] }
  | _ => none }
def AddrKnownWrongFalsely : Prop := addrKnownRow.holds Try.pinned (OpenSpec.ofChange addrKnownWrong)

/- THE SECOND FORM. 'bulk': how many values and letters a reading holds, each counted each time it is reached (what is shared counts as often as it is met; a slice's spare places count too). A statement '..UptoSaid' is the law's where the arguments, and the package variables that the reading takes, are together of bulk at most 1048576: NARROWER than '..Said'. Prove '..Said' where nothing that the law and all that it calls make is longer than what came in: it says more and counts as full. Else prove '..UptoSaid'. A law counts once. -/
mutual
def uptoBulk {H : Type} : DataW H → Nat
  | .lit (.string bytes) => bytes.length + 1
  | .lit _ => 1
  | .nil => 1
  | .ptr d => uptoBulk d + 1
  | .slice elems spare => uptoBulkAll elems + uptoBulkAll spare + 1
  | .agg parts => uptoBulkAll parts + 1
  | .iface _ d => uptoBulk d + 1
  | .map entries => uptoBulkEntries entries + 1
  | .held _ => 1
def uptoBulkAll {H : Type} : List (DataW H) → Nat
  | [] => 0
  | d :: r => uptoBulk d + uptoBulkAll r
def uptoBulkEntries {H : Type} : List (Lit × DataW H) → Nat
  | [] => 0
  | x :: r => uptoBulkEntry x + uptoBulkEntries r
def uptoBulkEntry {H : Type} : Lit × DataW H → Nat
  | (.string bytes, d) => bytes.length + uptoBulk d + 1
  | (_, d) => uptoBulk d + 1
 end
def uptoSmall : (H : Type) → List (DataW H) → Bool := fun _ ds => decide (uptoBulkAll ds ≤ 1048576)
def OpenSpec.upto (s : _root_.Go.ChangeSpec) : _root_.Go.OpenSpec := { _root_.Go.OpenSpec.ofChange s with cond := some uptoSmall }

/-- 'cofferdamlaw01.AddrSplits', WHERE WHAT IT READS IS OF BULK AT MOST 1048576: true; the input reads as it did. -/
def addrSplitsUptoRow : OpenClaim := { program := "ytgoebgefhgffcaa", sum := "f4e844bb0100959d910ac35a7238b8ded21df2c9eb90d67c20d37e6e26849feb", func := "cofferdam/cofferdamlaw01.AddrSplits", spec := "addrSplits", unfollowed := true, recurses := true, apart := false, narrowed := true }
def AddrSplitsUptoSaid : Prop := addrSplitsUptoRow.holds Try.pinned (OpenSpec.upto addrSplitsSpec)

/-- 'cofferdamlaw01.AddrIndexes', WHERE WHAT IT READS IS OF BULK AT MOST 1048576: true; the input reads as it did. -/
def addrIndexesUptoRow : OpenClaim := { program := "ytgoebgefhgffcaa", sum := "f4e844bb0100959d910ac35a7238b8ded21df2c9eb90d67c20d37e6e26849feb", func := "cofferdam/cofferdamlaw01.AddrIndexes", spec := "addrIndexes", unfollowed := true, recurses := true, apart := false, narrowed := true }
def AddrIndexesUptoSaid : Prop := addrIndexesUptoRow.holds Try.pinned (OpenSpec.upto addrIndexesSpec)

/-- 'cofferdamlaw01.AddrTables', WHERE WHAT IT READS IS OF BULK AT MOST 1048576: true; the input reads as it did. -/
def addrTablesUptoRow : OpenClaim := { program := "ytgoebgefhgffcaa", sum := "f4e844bb0100959d910ac35a7238b8ded21df2c9eb90d67c20d37e6e26849feb", func := "cofferdam/cofferdamlaw01.AddrTables", spec := "addrTables", unfollowed := true, recurses := true, apart := false, narrowed := true }
def AddrTablesUptoSaid : Prop := addrTablesUptoRow.holds Try.pinned (OpenSpec.upto addrTablesSpec)

/-- 'cofferdamlaw01.AddrFew', WHERE WHAT IT READS IS OF BULK AT MOST 1048576: true; the input reads as it did. -/
def addrFewUptoRow : OpenClaim := { program := "ytgoebgefhgffcaa", sum := "f4e844bb0100959d910ac35a7238b8ded21df2c9eb90d67c20d37e6e26849feb", func := "cofferdam/cofferdamlaw01.AddrFew", spec := "addrFew", unfollowed := true, recurses := true, apart := false, narrowed := true }
def AddrFewUptoSaid : Prop := addrFewUptoRow.holds Try.pinned (OpenSpec.upto addrFewSpec)

/-- 'cofferdamlaw01.AddrRuns', WHERE WHAT IT READS IS OF BULK AT MOST 1048576: true; the input reads as it did. -/
def addrRunsUptoRow : OpenClaim := { program := "ytgoebgefhgffcaa", sum := "f4e844bb0100959d910ac35a7238b8ded21df2c9eb90d67c20d37e6e26849feb", func := "cofferdam/cofferdamlaw01.AddrRuns", spec := "addrRuns", unfollowed := true, recurses := true, apart := false, narrowed := true }
def AddrRunsUptoSaid : Prop := addrRunsUptoRow.holds Try.pinned (OpenSpec.upto addrRunsSpec)

/-- 'cofferdamlaw01.AddrPlaces', WHERE WHAT IT READS IS OF BULK AT MOST 1048576: true; the input reads as it did. -/
def addrPlacesUptoRow : OpenClaim := { program := "ytgoebgefhgffcaa", sum := "f4e844bb0100959d910ac35a7238b8ded21df2c9eb90d67c20d37e6e26849feb", func := "cofferdam/cofferdamlaw01.AddrPlaces", spec := "addrPlaces", unfollowed := true, recurses := true, apart := false, narrowed := true }
def AddrPlacesUptoSaid : Prop := addrPlacesUptoRow.holds Try.pinned (OpenSpec.upto addrPlacesSpec)

/-- 'cofferdamlaw01.AddrBack', WHERE WHAT IT READS IS OF BULK AT MOST 1048576: true; the input reads as it did. -/
def addrBackUptoRow : OpenClaim := { program := "ytgoebgefhgffcaa", sum := "f4e844bb0100959d910ac35a7238b8ded21df2c9eb90d67c20d37e6e26849feb", func := "cofferdam/cofferdamlaw01.AddrBack", spec := "addrBack", unfollowed := true, recurses := true, apart := false, narrowed := true }
def AddrBackUptoSaid : Prop := addrBackUptoRow.holds Try.pinned (OpenSpec.upto addrBackSpec)

/-- 'cofferdamlaw01.AddrKnown', WHERE WHAT IT READS IS OF BULK AT MOST 1048576: true; the input reads as it did. -/
def addrKnownUptoRow : OpenClaim := { program := "ytgoebgefhgffcaa", sum := "f4e844bb0100959d910ac35a7238b8ded21df2c9eb90d67c20d37e6e26849feb", func := "cofferdam/cofferdamlaw01.AddrKnown", spec := "addrKnown", unfollowed := true, recurses := true, apart := false, narrowed := true }
def AddrKnownUptoSaid : Prop := addrKnownUptoRow.holds Try.pinned (OpenSpec.upto addrKnownSpec)

end Rows
end Go.Proofs.Ytgoebgefhgffcaa
