/-
  No cell of these rows narrows 'for every input' (looked for: loops, veiled, ifaces, maps, wideKeys, modest, calm, conditions, laid).
  DERIVED. THE GIVEN ROWS OF THIS SEAT. 6 by the template 'for every input the law returns true; each argument reads behind the call as it read before'; 0 by the template 'total and deterministic' (their statements: YtalkcemelegohaaTotals.lean).
  GIVEN WITH THE SEED: the statements are not yours to turn. If you find one false, say at which input.
  Laid BY PROGRAM, IN A SANDBOX (cutbox-rows.mjs): the forced cells as the released guide's own fill.sh prints them over the translation cc69e8f1d1640405… (all of the seat's roots in one cut). By AI agents, Wed Nov 11 2026. No macro, syntax, notation, axiom, sorry.
-/
import Derived.Test.YtalkcemelegohaaChecked
import GoSem.Claim
import GoSem.ClaimJoined
import GoSem.ClaimMapViews
import Derived.JoinedTies
import Derived.KernelRfl
namespace Go.Proofs.Ytalkcemelegohaa
/- THE CELL 'sum', in the pinned program and in every row, IS THE sha256 OF THE DUMP (.gsa) THAT YtalkcemelegohaaProg.lean LOADS. Nothing in Lean hashes anything: it is a label: what it is worth is what the hold of that sum in a sandbox is worth. -/
noncomputable def Try.pinned : Pinned := { name := "ytalkcemelegohaa", sum := "cc69e8f1d164040534afe86c51c0c7a78a6b0ff4b4e2418422292644ac7d9028", checked := Try.checked }
namespace Rows
def none {H : Type} : Left H := { results := [], args := [] }

/-- 'cofferdamlaw21.SpaceBack': WHATEVER THE INPUT: true; the input reads as it did. -/
def spaceBackSpec : ChangeSpec := { name := "spaceBack", fn := fun _ => fun
  | [d1, d2] => { results := [.lit (.bool true)], args := [d1, d2] }
  | _ => none }
def spaceBackRow : OpenClaim := { program := "ytalkcemelegohaa", sum := "cc69e8f1d164040534afe86c51c0c7a78a6b0ff4b4e2418422292644ac7d9028", func := "cofferdam/cofferdamlaw21.SpaceBack", spec := "spaceBack", unfollowed := true, recurses := true, apart := false }
def SpaceBackSaid : Prop := spaceBackRow.holds Try.pinned (OpenSpec.ofChange spaceBackSpec)

/-- ITS FALSE NEIGHBOUR: 'it returns false'. Refute it at one input. -/
def spaceBackWrong : ChangeSpec := { name := "spaceBack", fn := fun _ => fun
  | [d1, d2] => { results := [.lit (.bool false)], args := [d1, d2] }
  | _ => none }
def SpaceBackWrongFalsely : Prop := spaceBackRow.holds Try.pinned (OpenSpec.ofChange spaceBackWrong)

/-- 'cofferdamlaw21.SpacePlays': WHATEVER THE INPUT: true; the input reads as it did. -/
def spacePlaysSpec : ChangeSpec := { name := "spacePlays", fn := fun _ => fun
  | [d1, d2] => { results := [.lit (.bool true)], args := [d1, d2] }
  | _ => none }
def spacePlaysRow : OpenClaim := { program := "ytalkcemelegohaa", sum := "cc69e8f1d164040534afe86c51c0c7a78a6b0ff4b4e2418422292644ac7d9028", func := "cofferdam/cofferdamlaw21.SpacePlays", spec := "spacePlays", unfollowed := true, recurses := true, apart := false }
def SpacePlaysSaid : Prop := spacePlaysRow.holds Try.pinned (OpenSpec.ofChange spacePlaysSpec)

/-- ITS FALSE NEIGHBOUR: 'it returns false'. Refute it at one input. -/
def spacePlaysWrong : ChangeSpec := { name := "spacePlays", fn := fun _ => fun
  | [d1, d2] => { results := [.lit (.bool false)], args := [d1, d2] }
  | _ => none }
def SpacePlaysWrongFalsely : Prop := spacePlaysRow.holds Try.pinned (OpenSpec.ofChange spacePlaysWrong)

/-- 'cofferdamlaw21.SpaceTells': WHATEVER THE INPUT: true; the input reads as it did. -/
def spaceTellsSpec : ChangeSpec := { name := "spaceTells", fn := fun _ => fun
  | [d1, d2] => { results := [.lit (.bool true)], args := [d1, d2] }
  | _ => none }
def spaceTellsRow : OpenClaim := { program := "ytalkcemelegohaa", sum := "cc69e8f1d164040534afe86c51c0c7a78a6b0ff4b4e2418422292644ac7d9028", func := "cofferdam/cofferdamlaw21.SpaceTells", spec := "spaceTells", unfollowed := true, recurses := true, apart := false }
def SpaceTellsSaid : Prop := spaceTellsRow.holds Try.pinned (OpenSpec.ofChange spaceTellsSpec)

/-- ITS FALSE NEIGHBOUR: 'it returns false'. Refute it at one input. -/
def spaceTellsWrong : ChangeSpec := { name := "spaceTells", fn := fun _ => fun
  | [d1, d2] => { results := [.lit (.bool false)], args := [d1, d2] }
  | _ => none }
def SpaceTellsWrongFalsely : Prop := spaceTellsRow.holds Try.pinned (OpenSpec.ofChange spaceTellsWrong)

/-- 'cofferdamlaw21.SpacePages': WHATEVER THE INPUT: true; the input reads as it did. -/
def spacePagesSpec : ChangeSpec := { name := "spacePages", fn := fun _ => fun
  | [d] => { results := [.lit (.bool true)], args := [d] }
  | _ => none }
def spacePagesRow : OpenClaim := { program := "ytalkcemelegohaa", sum := "cc69e8f1d164040534afe86c51c0c7a78a6b0ff4b4e2418422292644ac7d9028", func := "cofferdam/cofferdamlaw21.SpacePages", spec := "spacePages", unfollowed := true, recurses := true, apart := false }
def SpacePagesSaid : Prop := spacePagesRow.holds Try.pinned (OpenSpec.ofChange spacePagesSpec)

/-- ITS FALSE NEIGHBOUR: 'it returns false'. Refute it at one input. -/
def spacePagesWrong : ChangeSpec := { name := "spacePages", fn := fun _ => fun
  | [d] => { results := [.lit (.bool false)], args := [d] }
  | _ => none }
def SpacePagesWrongFalsely : Prop := spacePagesRow.holds Try.pinned (OpenSpec.ofChange spacePagesWrong)

/-- 'cofferdamlaw21.SpaceSums': WHATEVER THE INPUT: true; the input reads as it did. -/
def spaceSumsSpec : ChangeSpec := { name := "spaceSums", fn := fun _ => fun
  | [d1, d2, d3] => { results := [.lit (.bool true)], args := [d1, d2, d3] }
  | _ => none }
def spaceSumsRow : OpenClaim := { program := "ytalkcemelegohaa", sum := "cc69e8f1d164040534afe86c51c0c7a78a6b0ff4b4e2418422292644ac7d9028", func := "cofferdam/cofferdamlaw21.SpaceSums", spec := "spaceSums", unfollowed := true, recurses := true, apart := false }
def SpaceSumsSaid : Prop := spaceSumsRow.holds Try.pinned (OpenSpec.ofChange spaceSumsSpec)

/-- ITS FALSE NEIGHBOUR: 'it returns false'. Refute it at one input. -/
def spaceSumsWrong : ChangeSpec := { name := "spaceSums", fn := fun _ => fun
  | [d1, d2, d3] => { results := [.lit (.bool false)], args := [d1, d2, d3] }
  | _ => none }
def SpaceSumsWrongFalsely : Prop := spaceSumsRow.holds Try.pinned (OpenSpec.ofChange spaceSumsWrong)

/-- 'cofferdamlaw21.SpaceKnown': WHATEVER THE INPUT: true; the input reads as it did. -/
def spaceKnownSpec : ChangeSpec := { name := "spaceKnown", fn := fun _ => fun
  | [] => { results := [.lit (.bool true)], args := [] }
  | _ => none }
def spaceKnownRow : OpenClaim := { program := "ytalkcemelegohaa", sum := "cc69e8f1d164040534afe86c51c0c7a78a6b0ff4b4e2418422292644ac7d9028", func := "cofferdam/cofferdamlaw21.SpaceKnown", spec := "spaceKnown", unfollowed := true, recurses := true, apart := false }
def SpaceKnownSaid : Prop := spaceKnownRow.holds Try.pinned (OpenSpec.ofChange spaceKnownSpec)

/-- ITS FALSE NEIGHBOUR: 'it returns false'. Refute it at one input. -/
def spaceKnownWrong : ChangeSpec := { name := "spaceKnown", fn := fun _ => fun
  | [] => { results := [.lit (.bool false)], args := [] }
  | _ => none }
def SpaceKnownWrongFalsely : Prop := spaceKnownRow.holds Try.pinned (OpenSpec.ofChange spaceKnownWrong)

/- THE SECOND FORM. 'bulk': how many values and letters a reading holds, each counted each time it is reached (what is shared counts as often as it is met; a slice's spare places count too). A statement '..UptoSaid' is the law's where the arguments, and the package variables that the reading takes, are together of bulk at most 1048576: NARROWER than '..Said'. Prove '..Said' where nothing that the law and all that it calls make is longer than what came in: it says more and counts as full. Else prove '..UptoSaid'. A law counts once. -/
mutual
def uptoBulk {H : Type} : DataW H → Nat
  | .lit (.string bytes) => bytes.length + 1
  | .lit _ => 1
  | .nil => 1
  | .ptr d => uptoBulk d + 1
  | .slice elems spare => uptoBulkAll elems + uptoBulkAll spare + 1
  | .agg parts => uptoBulkAll parts + 1
  | .iface _ d => uptoBulk d + 1
  | .map entries => uptoBulkEntries entries + 1
  | .held _ => 1
def uptoBulkAll {H : Type} : List (DataW H) → Nat
  | [] => 0
  | d :: r => uptoBulk d + uptoBulkAll r
def uptoBulkEntries {H : Type} : List (Lit × DataW H) → Nat
  | [] => 0
  | x :: r => uptoBulkEntry x + uptoBulkEntries r
def uptoBulkEntry {H : Type} : Lit × DataW H → Nat
  | (.string bytes, d) => bytes.length + uptoBulk d + 1
  | (_, d) => uptoBulk d + 1
 end
def uptoSmall : (H : Type) → List (DataW H) → Bool := fun _ ds => decide (uptoBulkAll ds ≤ 1048576)
def OpenSpec.upto (s : _root_.Go.ChangeSpec) : _root_.Go.OpenSpec := { _root_.Go.OpenSpec.ofChange s with cond := some uptoSmall }

/-- 'cofferdamlaw21.SpaceBack', WHERE WHAT IT READS IS OF BULK AT MOST 1048576: true; the input reads as it did. -/
def spaceBackUptoRow : OpenClaim := { program := "ytalkcemelegohaa", sum := "cc69e8f1d164040534afe86c51c0c7a78a6b0ff4b4e2418422292644ac7d9028", func := "cofferdam/cofferdamlaw21.SpaceBack", spec := "spaceBack", unfollowed := true, recurses := true, apart := false, narrowed := true }
def SpaceBackUptoSaid : Prop := spaceBackUptoRow.holds Try.pinned (OpenSpec.upto spaceBackSpec)

/-- 'cofferdamlaw21.SpacePlays', WHERE WHAT IT READS IS OF BULK AT MOST 1048576: true; the input reads as it did. -/
def spacePlaysUptoRow : OpenClaim := { program := "ytalkcemelegohaa", sum := "cc69e8f1d164040534afe86c51c0c7a78a6b0ff4b4e2418422292644ac7d9028", func := "cofferdam/cofferdamlaw21.SpacePlays", spec := "spacePlays", unfollowed := true, recurses := true, apart := false, narrowed := true }
def SpacePlaysUptoSaid : Prop := spacePlaysUptoRow.holds Try.pinned (OpenSpec.upto spacePlaysSpec)

/-- 'cofferdamlaw21.SpaceTells', WHERE WHAT IT READS IS OF BULK AT MOST 1048576: true; the input reads as it did. -/
def spaceTellsUptoRow : OpenClaim := { program := "ytalkcemelegohaa", sum := "cc69e8f1d164040534afe86c51c0c7a78a6b0ff4b4e2418422292644ac7d9028", func := "cofferdam/cofferdamlaw21.SpaceTells", spec := "spaceTells", unfollowed := true, recurses := true, apart := false, narrowed := true }
def SpaceTellsUptoSaid : Prop := spaceTellsUptoRow.holds Try.pinned (OpenSpec.upto spaceTellsSpec)

/-- 'cofferdamlaw21.SpacePages', WHERE WHAT IT READS IS OF BULK AT MOST 1048576: true; the input reads as it did. -/
def spacePagesUptoRow : OpenClaim := { program := "ytalkcemelegohaa", sum := "cc69e8f1d164040534afe86c51c0c7a78a6b0ff4b4e2418422292644ac7d9028", func := "cofferdam/cofferdamlaw21.SpacePages", spec := "spacePages", unfollowed := true, recurses := true, apart := false, narrowed := true }
def SpacePagesUptoSaid : Prop := spacePagesUptoRow.holds Try.pinned (OpenSpec.upto spacePagesSpec)

/-- 'cofferdamlaw21.SpaceSums', WHERE WHAT IT READS IS OF BULK AT MOST 1048576: true; the input reads as it did. -/
def spaceSumsUptoRow : OpenClaim := { program := "ytalkcemelegohaa", sum := "cc69e8f1d164040534afe86c51c0c7a78a6b0ff4b4e2418422292644ac7d9028", func := "cofferdam/cofferdamlaw21.SpaceSums", spec := "spaceSums", unfollowed := true, recurses := true, apart := false, narrowed := true }
def SpaceSumsUptoSaid : Prop := spaceSumsUptoRow.holds Try.pinned (OpenSpec.upto spaceSumsSpec)

/-- 'cofferdamlaw21.SpaceKnown', WHERE WHAT IT READS IS OF BULK AT MOST 1048576: true; the input reads as it did. -/
def spaceKnownUptoRow : OpenClaim := { program := "ytalkcemelegohaa", sum := "cc69e8f1d164040534afe86c51c0c7a78a6b0ff4b4e2418422292644ac7d9028", func := "cofferdam/cofferdamlaw21.SpaceKnown", spec := "spaceKnown", unfollowed := true, recurses := true, apart := false, narrowed := true }
def SpaceKnownUptoSaid : Prop := spaceKnownUptoRow.holds Try.pinned (OpenSpec.upto spaceKnownSpec)

end Rows
end Go.Proofs.Ytalkcemelegohaa
