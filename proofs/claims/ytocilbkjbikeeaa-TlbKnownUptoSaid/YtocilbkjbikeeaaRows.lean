/-
  No cell of these rows narrows 'for every input' (looked for: loops, veiled, ifaces, maps, wideKeys, modest, calm, conditions, laid).
  DERIVED. THE GIVEN ROWS OF THIS SEAT. 5 by the template 'for every input the law returns true; each argument reads behind the call as it read before'; 0 by the template 'total and deterministic' (their statements: YtocilbkjbikeeaaTotals.lean).
  GIVEN WITH THE SEED: the statements are not yours to turn. If you find one false, say at which input.
  Laid BY PROGRAM, IN A SANDBOX (cutbox-rows.mjs): the forced cells as the released guide's own fill.sh prints them over the translation b5cb61f7b3009d10… (all of the seat's roots in one cut). By AI agents, Wed Nov 11 2026. No macro, syntax, notation, axiom, sorry.
-/
import Derived.Test.YtocilbkjbikeeaaChecked
import GoSem.Claim
import GoSem.ClaimJoined
import GoSem.ClaimMapViews
import Derived.JoinedTies
import Derived.KernelRfl
namespace Go.Proofs.Ytocilbkjbikeeaa
/- THE CELL 'sum', in the pinned program and in every row, IS THE sha256 OF THE DUMP (.gsa) THAT YtocilbkjbikeeaaProg.lean LOADS. Nothing in Lean hashes anything: it is a label: what it is worth is what the hold of that sum in a sandbox is worth. -/
noncomputable def Try.pinned : Pinned := { name := "ytocilbkjbikeeaa", sum := "b5cb61f7b3009d10777376ba637b960e515ccf2be8f9c3112488c23e137a6d8e", checked := Try.checked }
namespace Rows
def none {H : Type} : Left H := { results := [], args := [] }

/-- 'cofferdamlaw04.TlbStays': WHATEVER THE INPUT: true; the input reads as it did. -/
def tlbStaysSpec : ChangeSpec := { name := "tlbStays", fn := fun _ => fun
  | [d1, d2] => { results := [.lit (.bool true)], args := [d1, d2] }
  | _ => none }
def tlbStaysRow : OpenClaim := { program := "ytocilbkjbikeeaa", sum := "b5cb61f7b3009d10777376ba637b960e515ccf2be8f9c3112488c23e137a6d8e", func := "cofferdam/cofferdamlaw04.TlbStays", spec := "tlbStays", unfollowed := true, recurses := true, apart := false }
def TlbStaysSaid : Prop := tlbStaysRow.holds Try.pinned (OpenSpec.ofChange tlbStaysSpec)

/-- ITS FALSE NEIGHBOUR: 'it returns false'. Refute it at one input. -/
def tlbStaysWrong : ChangeSpec := { name := "tlbStays", fn := fun _ => fun
  | [d1, d2] => { results := [.lit (.bool false)], args := [d1, d2] }
  | _ => none }
def TlbStaysWrongFalsely : Prop := tlbStaysRow.holds Try.pinned (OpenSpec.ofChange tlbStaysWrong)

/-- 'cofferdamlaw04.TlbAges': WHATEVER THE INPUT: true; the input reads as it did. -/
def tlbAgesSpec : ChangeSpec := { name := "tlbAges", fn := fun _ => fun
  | [d1, d2] => { results := [.lit (.bool true)], args := [d1, d2] }
  | _ => none }
def tlbAgesRow : OpenClaim := { program := "ytocilbkjbikeeaa", sum := "b5cb61f7b3009d10777376ba637b960e515ccf2be8f9c3112488c23e137a6d8e", func := "cofferdam/cofferdamlaw04.TlbAges", spec := "tlbAges", unfollowed := true, recurses := true, apart := false }
def TlbAgesSaid : Prop := tlbAgesRow.holds Try.pinned (OpenSpec.ofChange tlbAgesSpec)

/-- ITS FALSE NEIGHBOUR: 'it returns false'. Refute it at one input. -/
def tlbAgesWrong : ChangeSpec := { name := "tlbAges", fn := fun _ => fun
  | [d1, d2] => { results := [.lit (.bool false)], args := [d1, d2] }
  | _ => none }
def TlbAgesWrongFalsely : Prop := tlbAgesRow.holds Try.pinned (OpenSpec.ofChange tlbAgesWrong)

/-- 'cofferdamlaw04.TlbApart': WHATEVER THE INPUT: true; the input reads as it did. -/
def tlbApartSpec : ChangeSpec := { name := "tlbApart", fn := fun _ => fun
  | [d1, d2] => { results := [.lit (.bool true)], args := [d1, d2] }
  | _ => none }
def tlbApartRow : OpenClaim := { program := "ytocilbkjbikeeaa", sum := "b5cb61f7b3009d10777376ba637b960e515ccf2be8f9c3112488c23e137a6d8e", func := "cofferdam/cofferdamlaw04.TlbApart", spec := "tlbApart", unfollowed := true, recurses := true, apart := false }
def TlbApartSaid : Prop := tlbApartRow.holds Try.pinned (OpenSpec.ofChange tlbApartSpec)

/-- ITS FALSE NEIGHBOUR: 'it returns false'. Refute it at one input. -/
def tlbApartWrong : ChangeSpec := { name := "tlbApart", fn := fun _ => fun
  | [d1, d2] => { results := [.lit (.bool false)], args := [d1, d2] }
  | _ => none }
def TlbApartWrongFalsely : Prop := tlbApartRow.holds Try.pinned (OpenSpec.ofChange tlbApartWrong)

/-- 'cofferdamlaw04.TlbPlays': WHATEVER THE INPUT: true; the input reads as it did. -/
def tlbPlaysSpec : ChangeSpec := { name := "tlbPlays", fn := fun _ => fun
  | [d1, d2] => { results := [.lit (.bool true)], args := [d1, d2] }
  | _ => none }
def tlbPlaysRow : OpenClaim := { program := "ytocilbkjbikeeaa", sum := "b5cb61f7b3009d10777376ba637b960e515ccf2be8f9c3112488c23e137a6d8e", func := "cofferdam/cofferdamlaw04.TlbPlays", spec := "tlbPlays", unfollowed := true, recurses := true, apart := false }
def TlbPlaysSaid : Prop := tlbPlaysRow.holds Try.pinned (OpenSpec.ofChange tlbPlaysSpec)

/-- ITS FALSE NEIGHBOUR: 'it returns false'. Refute it at one input. -/
def tlbPlaysWrong : ChangeSpec := { name := "tlbPlays", fn := fun _ => fun
  | [d1, d2] => { results := [.lit (.bool false)], args := [d1, d2] }
  | _ => none }
def TlbPlaysWrongFalsely : Prop := tlbPlaysRow.holds Try.pinned (OpenSpec.ofChange tlbPlaysWrong)

/-- 'cofferdamlaw04.TlbKnown': WHATEVER THE INPUT: true; the input reads as it did. -/
def tlbKnownSpec : ChangeSpec := { name := "tlbKnown", fn := fun _ => fun
  | [] => { results := [.lit (.bool true)], args := [] }
  | _ => none }
def tlbKnownRow : OpenClaim := { program := "ytocilbkjbikeeaa", sum := "b5cb61f7b3009d10777376ba637b960e515ccf2be8f9c3112488c23e137a6d8e", func := "cofferdam/cofferdamlaw04.TlbKnown", spec := "tlbKnown", unfollowed := true, recurses := true, apart := false }
def TlbKnownSaid : Prop := tlbKnownRow.holds Try.pinned (OpenSpec.ofChange tlbKnownSpec)

/-- ITS FALSE NEIGHBOUR: 'it returns false'. Refute it at one input. -/
def tlbKnownWrong : ChangeSpec := { name := "tlbKnown", fn := fun _ => fun
  | [] => { results := [.lit (.bool false)], args := [] }
  | _ => none }
def TlbKnownWrongFalsely : Prop := tlbKnownRow.holds Try.pinned (OpenSpec.ofChange tlbKnownWrong)

/- THE SECOND FORM. 'bulk': how many values and letters a reading holds, each counted each time it is reached (what is shared counts as often as it is met; a slice's spare places count too). A statement '..UptoSaid' is the law's where the arguments, and the package variables that the reading takes, are together of bulk at most 1048576: NARROWER than '..Said'. Prove '..Said' where nothing that the law and all that it calls make is longer than what came in: it says more and counts as full. Else prove '..UptoSaid'. A law counts once. -/
mutual
def uptoBulk {H : Type} : DataW H → Nat
  | .lit (.string bytes) => bytes.length + 1
  | .lit _ => 1
  | .nil => 1
  | .ptr d => uptoBulk d + 1
  | .slice elems spare => uptoBulkAll elems + uptoBulkAll spare + 1
  | .agg parts => uptoBulkAll parts + 1
  | .iface _ d => uptoBulk d + 1
  | .map entries => uptoBulkEntries entries + 1
  | .held _ => 1
def uptoBulkAll {H : Type} : List (DataW H) → Nat
  | [] => 0
  | d :: r => uptoBulk d + uptoBulkAll r
def uptoBulkEntries {H : Type} : List (Lit × DataW H) → Nat
  | [] => 0
  | x :: r => uptoBulkEntry x + uptoBulkEntries r
def uptoBulkEntry {H : Type} : Lit × DataW H → Nat
  | (.string bytes, d) => bytes.length + uptoBulk d + 1
  | (_, d) => uptoBulk d + 1
 end
def uptoSmall : (H : Type) → List (DataW H) → Bool := fun _ ds => decide (uptoBulkAll ds ≤ 1048576)
def OpenSpec.upto (s : _root_.Go.ChangeSpec) : _root_.Go.OpenSpec := { _root_.Go.OpenSpec.ofChange s with cond := some uptoSmall }

/-- 'cofferdamlaw04.TlbStays', WHERE WHAT IT READS IS OF BULK AT MOST 1048576: true; the input reads as it did. -/
def tlbStaysUptoRow : OpenClaim := { program := "ytocilbkjbikeeaa", sum := "b5cb61f7b3009d10777376ba637b960e515ccf2be8f9c3112488c23e137a6d8e", func := "cofferdam/cofferdamlaw04.TlbStays", spec := "tlbStays", unfollowed := true, recurses := true, apart := false, narrowed := true }
def TlbStaysUptoSaid : Prop := tlbStaysUptoRow.holds Try.pinned (OpenSpec.upto tlbStaysSpec)

/-- 'cofferdamlaw04.TlbAges', WHERE WHAT IT READS IS OF BULK AT MOST 1048576: true; the input reads as it did. -/
def tlbAgesUptoRow : OpenClaim := { program := "ytocilbkjbikeeaa", sum := "b5cb61f7b3009d10777376ba637b960e515ccf2be8f9c3112488c23e137a6d8e", func := "cofferdam/cofferdamlaw04.TlbAges", spec := "tlbAges", unfollowed := true, recurses := true, apart := false, narrowed := true }
def TlbAgesUptoSaid : Prop := tlbAgesUptoRow.holds Try.pinned (OpenSpec.upto tlbAgesSpec)

/-- 'cofferdamlaw04.TlbApart', WHERE WHAT IT READS IS OF BULK AT MOST 1048576: true; the input reads as it did. -/
def tlbApartUptoRow : OpenClaim := { program := "ytocilbkjbikeeaa", sum := "b5cb61f7b3009d10777376ba637b960e515ccf2be8f9c3112488c23e137a6d8e", func := "cofferdam/cofferdamlaw04.TlbApart", spec := "tlbApart", unfollowed := true, recurses := true, apart := false, narrowed := true }
def TlbApartUptoSaid : Prop := tlbApartUptoRow.holds Try.pinned (OpenSpec.upto tlbApartSpec)

/-- 'cofferdamlaw04.TlbPlays', WHERE WHAT IT READS IS OF BULK AT MOST 1048576: true; the input reads as it did. -/
def tlbPlaysUptoRow : OpenClaim := { program := "ytocilbkjbikeeaa", sum := "b5cb61f7b3009d10777376ba637b960e515ccf2be8f9c3112488c23e137a6d8e", func := "cofferdam/cofferdamlaw04.TlbPlays", spec := "tlbPlays", unfollowed := true, recurses := true, apart := false, narrowed := true }
def TlbPlaysUptoSaid : Prop := tlbPlaysUptoRow.holds Try.pinned (OpenSpec.upto tlbPlaysSpec)

/-- 'cofferdamlaw04.TlbKnown', WHERE WHAT IT READS IS OF BULK AT MOST 1048576: true; the input reads as it did. -/
def tlbKnownUptoRow : OpenClaim := { program := "ytocilbkjbikeeaa", sum := "b5cb61f7b3009d10777376ba637b960e515ccf2be8f9c3112488c23e137a6d8e", func := "cofferdam/cofferdamlaw04.TlbKnown", spec := "tlbKnown", unfollowed := true, recurses := true, apart := false, narrowed := true }
def TlbKnownUptoSaid : Prop := tlbKnownUptoRow.holds Try.pinned (OpenSpec.upto tlbKnownSpec)

end Rows
end Go.Proofs.Ytocilbkjbikeeaa
