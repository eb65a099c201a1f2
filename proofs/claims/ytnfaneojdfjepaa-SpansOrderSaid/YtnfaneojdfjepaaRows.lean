/-
  No cell of these rows narrows 'for every input' (looked for: loops, veiled, ifaces, maps, wideKeys, modest, calm, conditions, laid).
  DERIVED. THE GIVEN ROWS OF THIS SEAT. 7 by the template 'for every input the law returns true; each argument reads behind the call as it read before'; 0 by the template 'total and deterministic' (their statements: YtnfaneojdfjepaaTotals.lean).
  GIVEN WITH THE SEED: the statements are not yours to turn. If you find one false, say at which input.
  Laid BY PROGRAM, IN A SANDBOX (cutbox-rows.mjs): the forced cells as the released guide's own fill.sh prints them over the translation ba0ce0a3adff1aa3… (all of the seat's roots in one cut). By AI agents, Wed Nov 11 2026. No macro, syntax, notation, axiom, sorry.
-/
import Derived.Test.YtnfaneojdfjepaaChecked
import GoSem.Claim
import GoSem.ClaimJoined
import GoSem.ClaimMapViews
import Derived.JoinedTies
import Derived.KernelRfl
namespace Go.Proofs.Ytnfaneojdfjepaa
/- THE CELL 'sum', in the pinned program and in every row, IS THE sha256 OF THE DUMP (.gsa) THAT YtnfaneojdfjepaaProg.lean LOADS. Nothing in Lean hashes anything: it is a label: what it is worth is what the hold of that sum in a sandbox is worth. -/
noncomputable def Try.pinned : Pinned := { name := "ytnfaneojdfjepaa", sum := "ba0ce0a3adff1aa367a2c34824ad2defffbd3be5a0407379c5c187969756caf4", checked := Try.checked }
namespace Rows
def none {H : Type} : Left H := { results := [], args := [] }

/-- 'turnbucklelaw05.SpansTells': WHATEVER THE INPUT: true; the input reads as it did. -/
def spansTellsSpec : ChangeSpec := { name := "spansTells", fn := fun _ => fun
  | [d1, d2] => { results := [.lit (.bool true)], args := [d1, d2] }
  | _ => none }
def spansTellsRow : OpenClaim := { program := "ytnfaneojdfjepaa", sum := "ba0ce0a3adff1aa367a2c34824ad2defffbd3be5a0407379c5c187969756caf4", func := "turnbuckle/turnbucklelaw05.SpansTells", spec := "spansTells", unfollowed := true, recurses := true, apart := false }
def SpansTellsSaid : Prop := spansTellsRow.holds Try.pinned (OpenSpec.ofChange spansTellsSpec)

/-- ITS FALSE NEIGHBOUR: 'it returns false'. Refute it at one input. -/
def spansTellsWrong : ChangeSpec := { name := "spansTells", fn := fun _ => fun
  | [d1, d2] => { results := [.lit (.bool false)], args := [d1, d2] }
  | _ => none }
def SpansTellsWrongFalsely : Prop := spansTellsRow.holds Try.pinned (OpenSpec.ofChange spansTellsWrong)

/-- 'turnbucklelaw05.SpansOrder': WHATEVER THE INPUT: true; the input reads as it did. -/
def spansOrderSpec : ChangeSpec := { name := "spansOrder", fn := fun _ => fun
  | [d1, d2] => { results := [.lit (.bool true)], args := [d1, d2] }
  | _ => none }
def spansOrderRow : OpenClaim := { program := "ytnfaneojdfjepaa", sum := "ba0ce0a3adff1aa367a2c34824ad2defffbd3be5a0407379c5c187969756caf4", func := "turnbuckle/turnbucklelaw05.SpansOrder", spec := "spansOrder", unfollowed := true, recurses := true, apart := false }
def SpansOrderSaid : Prop := spansOrderRow.holds Try.pinned (OpenSpec.ofChange spansOrderSpec)

/-- ITS FALSE NEIGHBOUR: 'it returns false'. Refute it at one input. -/
def spansOrderWrong : ChangeSpec := { name := "spansOrder", fn := fun _ => fun
  | [d1, d2] => { results := [.lit (.bool false)], args := [d1, d2] }
  | _ => none }
def SpansOrderWrongFalsely : Prop := spansOrderRow.holds Try.pinned (OpenSpec.ofChange spansOrderWrong)

/-- 'turnbucklelaw05.SpansTurns': WHATEVER THE INPUT: true; the input reads as it did. -/
def spansTurnsSpec : ChangeSpec := { name := "spansTurns", fn := fun _ => fun
  | [d1, d2, d3] => { results := [.lit (.bool true)], args := [d1, d2, d3] }
  | _ => none }
def spansTurnsRow : OpenClaim := { program := "ytnfaneojdfjepaa", sum := "ba0ce0a3adff1aa367a2c34824ad2defffbd3be5a0407379c5c187969756caf4", func := "turnbuckle/turnbucklelaw05.SpansTurns", spec := "spansTurns", unfollowed := true, recurses := true, apart := false }
def SpansTurnsSaid : Prop := spansTurnsRow.holds Try.pinned (OpenSpec.ofChange spansTurnsSpec)

/-- ITS FALSE NEIGHBOUR: 'it returns false'. Refute it at one input. -/
def spansTurnsWrong : ChangeSpec := { name := "spansTurns", fn := fun _ => fun
  | [d1, d2, d3] => { results := [.lit (.bool false)], args := [d1, d2, d3] }
  | _ => none }
def SpansTurnsWrongFalsely : Prop := spansTurnsRow.holds Try.pinned (OpenSpec.ofChange spansTurnsWrong)

/-- 'turnbucklelaw05.SpansIn': WHATEVER THE INPUT: true; the input reads as it did. -/
def spansInSpec : ChangeSpec := { name := "spansIn", fn := fun _ => fun
  | [d1, d2, d3] => { results := [.lit (.bool true)], args := [d1, d2, d3] }
  | _ => none }
def spansInRow : OpenClaim := { program := "ytnfaneojdfjepaa", sum := "ba0ce0a3adff1aa367a2c34824ad2defffbd3be5a0407379c5c187969756caf4", func := "turnbuckle/turnbucklelaw05.SpansIn", spec := "spansIn", unfollowed := true, recurses := true, apart := false }
def SpansInSaid : Prop := spansInRow.holds Try.pinned (OpenSpec.ofChange spansInSpec)

/-- ITS FALSE NEIGHBOUR: 'it returns false'. Refute it at one input. -/
def spansInWrong : ChangeSpec := { name := "spansIn", fn := fun _ => fun
  | [d1, d2, d3] => { results := [.lit (.bool false)], args := [d1, d2, d3] }
  | _ => none }
def SpansInWrongFalsely : Prop := spansInRow.holds Try.pinned (OpenSpec.ofChange spansInWrong)

/-- 'turnbucklelaw05.SpansTwice': WHATEVER THE INPUT: true; the input reads as it did. -/
def spansTwiceSpec : ChangeSpec := { name := "spansTwice", fn := fun _ => fun
  | [d1, d2] => { results := [.lit (.bool true)], args := [d1, d2] }
  | _ => none }
def spansTwiceRow : OpenClaim := { program := "ytnfaneojdfjepaa", sum := "ba0ce0a3adff1aa367a2c34824ad2defffbd3be5a0407379c5c187969756caf4", func := "turnbuckle/turnbucklelaw05.SpansTwice", spec := "spansTwice", unfollowed := true, recurses := true, apart := false }
def SpansTwiceSaid : Prop := spansTwiceRow.holds Try.pinned (OpenSpec.ofChange spansTwiceSpec)

/-- ITS FALSE NEIGHBOUR: 'it returns false'. Refute it at one input. -/
def spansTwiceWrong : ChangeSpec := { name := "spansTwice", fn := fun _ => fun
  | [d1, d2] => { results := [.lit (.bool false)], args := [d1, d2] }
  | _ => none }
def SpansTwiceWrongFalsely : Prop := spansTwiceRow.holds Try.pinned (OpenSpec.ofChange spansTwiceWrong)

/-- 'turnbucklelaw05.SpansOwn': WHATEVER THE INPUT: true; the input reads as it did. -/
def spansOwnSpec : ChangeSpec := { name := "spansOwn", fn := fun _ => fun
  | [d1, d2] => { results := [.lit (.bool true)], args := [d1, d2] }
  | _ => none }
def spansOwnRow : OpenClaim := { program := "ytnfaneojdfjepaa", sum := "ba0ce0a3adff1aa367a2c34824ad2defffbd3be5a0407379c5c187969756caf4", func := "turnbuckle/turnbucklelaw05.SpansOwn", spec := "spansOwn", unfollowed := true, recurses := true, apart := false }
def SpansOwnSaid : Prop := spansOwnRow.holds Try.pinned (OpenSpec.ofChange spansOwnSpec)

/-- ITS FALSE NEIGHBOUR: 'it returns false'. Refute it at one input. -/
def spansOwnWrong : ChangeSpec := { name := "spansOwn", fn := fun _ => fun
  | [d1, d2] => { results := [.lit (.bool false)], args := [d1, d2] }
  | _ => none }
def SpansOwnWrongFalsely : Prop := spansOwnRow.holds Try.pinned (OpenSpec.ofChange spansOwnWrong)

/-- 'turnbucklelaw05.SpansCuts': WHATEVER THE INPUT: true; the input reads as it did. -/
def spansCutsSpec : ChangeSpec := { name := "spansCuts", fn := fun _ => fun
  | [d1, d2, d3] => { results := [.lit (.bool true)], args := [d1, d2, d3] }
  | _ => none }
def spansCutsRow : OpenClaim := { program := "ytnfaneojdfjepaa", sum := "ba0ce0a3adff1aa367a2c34824ad2defffbd3be5a0407379c5c187969756caf4", func := "turnbuckle/turnbucklelaw05.SpansCuts", spec := "spansCuts", unfollowed := true, recurses := true, apart := false }
def SpansCutsSaid : Prop := spansCutsRow.holds Try.pinned (OpenSpec.ofChange spansCutsSpec)

/-- ITS FALSE NEIGHBOUR: 'it returns false'. Refute it at one input. -/
def spansCutsWrong : ChangeSpec := { name := "spansCuts", fn := fun _ => fun
  | [d1, d2, d3] => { results := [.lit (.bool false)], args := [d1, d2, d3] }
  | _ => none }
def SpansCutsWrongFalsely : Prop := spansCutsRow.holds Try.pinned (OpenSpec.ofChange spansCutsWrong)

/- THE SECOND FORM. 'bulk': how many values and letters a reading holds, each counted each time it is reached (what is shared counts as often as it is met; a slice's spare places count too). A statement '..UptoSaid' is the law's where the arguments, and the package variables that the reading takes, are together of bulk at most 1048576: NARROWER than '..Said'. Prove '..Said' where nothing that the law and all that it calls make is longer than what came in: it says more and counts as full. Else prove '..UptoSaid'. A law counts once. -/
mutual
def uptoBulk {H : Type} : DataW H → Nat
  | .lit (.string bytes) => bytes.length + 1
  | .lit _ => 1
  | .nil => 1
  | .ptr d => uptoBulk d + 1
  | .slice elems spare => uptoBulkAll elems + uptoBulkAll spare + 1
  | .agg parts => uptoBulkAll parts + 1
  | .iface _ d => uptoBulk d + 1
  | .map entries => uptoBulkEntries entries + 1
  | .held _ => 1
def uptoBulkAll {H : Type} : List (DataW H) → Nat
  | [] => 0
  | d :: r => uptoBulk d + uptoBulkAll r
def uptoBulkEntries {H : Type} : List (Lit × DataW H) → Nat
  | [] => 0
  | x :: r => uptoBulkEntry x + uptoBulkEntries r
def uptoBulkEntry {H : Type} : Lit × DataW H → Nat
  | (.string bytes, d) => bytes.length + uptoBulk d + 1
  | (_, d) => uptoBulk d + 1
 end
def uptoSmall : (H : Type) → List (DataW H) → Bool := fun _ ds => decide (uptoBulkAll ds ≤ 1048576)
def OpenSpec.upto (s : _root_.Go.ChangeSpec) : _root_.Go.OpenSpec := { _root_.Go.OpenSpec.ofChange s with cond := some uptoSmall }

/-- 'turnbucklelaw05.SpansTells', WHERE WHAT IT READS IS OF BULK AT MOST 1048576: true; the input reads as it did. -/
def spansTellsUptoRow : OpenClaim := { program := "ytnfaneojdfjepaa", sum := "ba0ce0a3adff1aa367a2c34824ad2defffbd3be5a0407379c5c187969756caf4", func := "turnbuckle/turnbucklelaw05.SpansTells", spec := "spansTells", unfollowed := true, recurses := true, apart := false, narrowed := true }
def SpansTellsUptoSaid : Prop := spansTellsUptoRow.holds Try.pinned (OpenSpec.upto spansTellsSpec)

/-- 'turnbucklelaw05.SpansOrder', WHERE WHAT IT READS IS OF BULK AT MOST 1048576: true; the input reads as it did. -/
def spansOrderUptoRow : OpenClaim := { program := "ytnfaneojdfjepaa", sum := "ba0ce0a3adff1aa367a2c34824ad2defffbd3be5a0407379c5c187969756caf4", func := "turnbuckle/turnbucklelaw05.SpansOrder", spec := "spansOrder", unfollowed := true, recurses := true, apart := false, narrowed := true }
def SpansOrderUptoSaid : Prop := spansOrderUptoRow.holds Try.pinned (OpenSpec.upto spansOrderSpec)

/-- 'turnbucklelaw05.SpansTurns', WHERE WHAT IT READS IS OF BULK AT MOST 1048576: true; the input reads as it did. -/
def spansTurnsUptoRow : OpenClaim := { program := "ytnfaneojdfjepaa", sum := "ba0ce0a3adff1aa367a2c34824ad2defffbd3be5a0407379c5c187969756caf4", func := "turnbuckle/turnbucklelaw05.SpansTurns", spec := "spansTurns", unfollowed := true, recurses := true, apart := false, narrowed := true }
def SpansTurnsUptoSaid : Prop := spansTurnsUptoRow.holds Try.pinned (OpenSpec.upto spansTurnsSpec)

/-- 'turnbucklelaw05.SpansIn', WHERE WHAT IT READS IS OF BULK AT MOST 1048576: true; the input reads as it did. -/
def spansInUptoRow : OpenClaim := { program := "ytnfaneojdfjepaa", sum := "ba0ce0a3adff1aa367a2c34824ad2defffbd3be5a0407379c5c187969756caf4", func := "turnbuckle/turnbucklelaw05.SpansIn", spec := "spansIn", unfollowed := true, recurses := true, apart := false, narrowed := true }
def SpansInUptoSaid : Prop := spansInUptoRow.holds Try.pinned (OpenSpec.upto spansInSpec)

/-- 'turnbucklelaw05.SpansTwice', WHERE WHAT IT READS IS OF BULK AT MOST 1048576: true; the input reads as it did. -/
def spansTwiceUptoRow : OpenClaim := { program := "ytnfaneojdfjepaa", sum := "ba0ce0a3adff1aa367a2c34824ad2defffbd3be5a0407379c5c187969756caf4", func := "turnbuckle/turnbucklelaw05.SpansTwice", spec := "spansTwice", unfollowed := true, recurses := true, apart := false, narrowed := true }
def SpansTwiceUptoSaid : Prop := spansTwiceUptoRow.holds Try.pinned (OpenSpec.upto spansTwiceSpec)

/-- 'turnbucklelaw05.SpansOwn', WHERE WHAT IT READS IS OF BULK AT MOST 1048576: true; the input reads as it did. -/
def spansOwnUptoRow : OpenClaim := { program := "ytnfaneojdfjepaa", sum := "ba0ce0a3adff1aa367a2c34824ad2defffbd3be5a0407379c5c187969756caf4", func := "turnbuckle/turnbucklelaw05.SpansOwn", spec := "spansOwn", unfollowed := true, recurses := true, apart := false, narrowed := true }
def SpansOwnUptoSaid : Prop := spansOwnUptoRow.holds Try.pinned (OpenSpec.upto spansOwnSpec)

/-- 'turnbucklelaw05.SpansCuts', WHERE WHAT IT READS IS OF BULK AT MOST 1048576: true; the input reads as it did. -/
def spansCutsUptoRow : OpenClaim := { program := "ytnfaneojdfjepaa", sum := "ba0ce0a3adff1aa367a2c34824ad2defffbd3be5a0407379c5c187969756caf4", func := "turnbuckle/turnbucklelaw05.SpansCuts", spec := "spansCuts", unfollowed := true, recurses := true, apart := false, narrowed := true }
def SpansCutsUptoSaid : Prop := spansCutsUptoRow.holds Try.pinned (OpenSpec.upto spansCutsSpec)

end Rows
end Go.Proofs.Ytnfaneojdfjepaa
