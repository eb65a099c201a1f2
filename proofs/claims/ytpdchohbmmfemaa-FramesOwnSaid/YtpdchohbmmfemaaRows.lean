/-
  No cell of these rows narrows 'for every input' (looked for: loops, veiled, ifaces, maps, wideKeys, modest, calm, conditions, laid).
  DERIVED. THE GIVEN ROWS OF THIS SEAT. 6 by the template 'for every input the law returns true; each argument reads behind the call as it read before'; 0 by the template 'total and deterministic' (their statements: YtpdchohbmmfemaaTotals.lean).
  GIVEN WITH THE SEED: the statements are not yours to turn. If you find one false, say at which input.
  Laid BY PROGRAM, IN A SANDBOX (cutbox-rows.mjs): the forced cells as the released guide's own fill.sh prints them over the translation e57235fb84b941dd… (all of the seat's roots in one cut). By AI agents, Wed Nov 11 2026. No macro, syntax, notation, axiom, sorry.
-/
import Derived.Test.YtpdchohbmmfemaaChecked
import GoSem.Claim
import GoSem.ClaimJoined
import GoSem.ClaimMapViews
import Derived.JoinedTies
import Derived.KernelRfl
namespace Go.Proofs.Ytpdchohbmmfemaa
/- THE CELL 'sum', in the pinned program and in every row, IS THE sha256 OF THE DUMP (.gsa) THAT YtpdchohbmmfemaaProg.lean LOADS. Nothing in Lean hashes anything: it is a label: what it is worth is what the hold of that sum in a sandbox is worth. -/
noncomputable def Try.pinned : Pinned := { name := "ytpdchohbmmfemaa", sum := "e57235fb84b941dd86a898da4d6f73515b9c5294e63f69b77b237175883e6939", checked := Try.checked }
namespace Rows
def none {H : Type} : Left H := { results := [], args := [] }

/-- 'turnbucklelaw04.FramesBack': WHATEVER THE INPUT: true; the input reads as it did. -/
def framesBackSpec : ChangeSpec := { name := "framesBack", fn := fun _ => fun
  | [d] => { results := [.lit (.bool true)], args := [d] }
  | _ => none }
def framesBackRow : OpenClaim := { program := "ytpdchohbmmfemaa", sum := "e57235fb84b941dd86a898da4d6f73515b9c5294e63f69b77b237175883e6939", func := "turnbuckle/turnbucklelaw04.FramesBack", spec := "framesBack", unfollowed := true, recurses := true, apart := false }
def FramesBackSaid : Prop := framesBackRow.holds Try.pinned (OpenSpec.ofChange framesBackSpec)

/-- ITS FALSE NEIGHBOUR: 'it returns false'. Refute it at one input. -/
def framesBackWrong : ChangeSpec := { name := "framesBack", fn := fun _ => fun
  | [d] => { results := [.lit (.bool false)], args := [d] }
  | _ => none }
def FramesBackWrongFalsely : Prop := framesBackRow.holds Try.pinned (OpenSpec.ofChange framesBackWrong)

/-- 'turnbucklelaw04.FramesAgain': WHATEVER THE INPUT: true; the input reads as it did. -/
def framesAgainSpec : ChangeSpec := { name := "framesAgain", fn := fun _ => fun
  | [d] => { results := [.lit (.bool true)], args := [d] }
  | _ => none }
def framesAgainRow : OpenClaim := { program := "ytpdchohbmmfemaa", sum := "e57235fb84b941dd86a898da4d6f73515b9c5294e63f69b77b237175883e6939", func := "turnbuckle/turnbucklelaw04.FramesAgain", spec := "framesAgain", unfollowed := true, recurses := true, apart := false }
def FramesAgainSaid : Prop := framesAgainRow.holds Try.pinned (OpenSpec.ofChange framesAgainSpec)

/-- ITS FALSE NEIGHBOUR: 'it returns false'. Refute it at one input. -/
def framesAgainWrong : ChangeSpec := { name := "framesAgain", fn := fun _ => fun
  | [d] => { results := [.lit (.bool false)], args := [d] }
  | _ => none }
def FramesAgainWrongFalsely : Prop := framesAgainRow.holds Try.pinned (OpenSpec.ofChange framesAgainWrong)

/-- 'turnbucklelaw04.FramesBoth': WHATEVER THE INPUT: true; the input reads as it did. -/
def framesBothSpec : ChangeSpec := { name := "framesBoth", fn := fun _ => fun
  | [d1, d2] => { results := [.lit (.bool true)], args := [d1, d2] }
  | _ => none }
def framesBothRow : OpenClaim := { program := "ytpdchohbmmfemaa", sum := "e57235fb84b941dd86a898da4d6f73515b9c5294e63f69b77b237175883e6939", func := "turnbuckle/turnbucklelaw04.FramesBoth", spec := "framesBoth", unfollowed := true, recurses := true, apart := false }
def FramesBothSaid : Prop := framesBothRow.holds Try.pinned (OpenSpec.ofChange framesBothSpec)

/-- ITS FALSE NEIGHBOUR: 'it returns false'. Refute it at one input. -/
def framesBothWrong : ChangeSpec := { name := "framesBoth", fn := fun _ => fun
  | [d1, d2] => { results := [.lit (.bool false)], args := [d1, d2] }
  | _ => none }
def FramesBothWrongFalsely : Prop := framesBothRow.holds Try.pinned (OpenSpec.ofChange framesBothWrong)

/-- 'turnbucklelaw04.FramesFirst': WHATEVER THE INPUT: true; the input reads as it did. -/
def framesFirstSpec : ChangeSpec := { name := "framesFirst", fn := fun _ => fun
  | [d1, d2] => { results := [.lit (.bool true)], args := [d1, d2] }
  | _ => none }
def framesFirstRow : OpenClaim := { program := "ytpdchohbmmfemaa", sum := "e57235fb84b941dd86a898da4d6f73515b9c5294e63f69b77b237175883e6939", func := "turnbuckle/turnbucklelaw04.FramesFirst", spec := "framesFirst", unfollowed := true, recurses := true, apart := false }
def FramesFirstSaid : Prop := framesFirstRow.holds Try.pinned (OpenSpec.ofChange framesFirstSpec)

/-- ITS FALSE NEIGHBOUR: 'it returns false'. Refute it at one input. -/
def framesFirstWrong : ChangeSpec := { name := "framesFirst", fn := fun _ => fun
  | [d1, d2] => { results := [.lit (.bool false)], args := [d1, d2] }
  | _ => none }
def FramesFirstWrongFalsely : Prop := framesFirstRow.holds Try.pinned (OpenSpec.ofChange framesFirstWrong)

/-- 'turnbucklelaw04.FramesOwn': WHATEVER THE INPUT: true; the input reads as it did. -/
def framesOwnSpec : ChangeSpec := { name := "framesOwn", fn := fun _ => fun
  | [d] => { results := [.lit (.bool true)], args := [d] }
  | _ => none }
def framesOwnRow : OpenClaim := { program := "ytpdchohbmmfemaa", sum := "e57235fb84b941dd86a898da4d6f73515b9c5294e63f69b77b237175883e6939", func := "turnbuckle/turnbucklelaw04.FramesOwn", spec := "framesOwn", unfollowed := true, recurses := true, apart := false }
def FramesOwnSaid : Prop := framesOwnRow.holds Try.pinned (OpenSpec.ofChange framesOwnSpec)

/-- ITS FALSE NEIGHBOUR: 'it returns false'. Refute it at one input. -/
def framesOwnWrong : ChangeSpec := { name := "framesOwn", fn := fun _ => fun
  | [d] => { results := [.lit (.bool false)], args := [d] }
  | _ => none }
def FramesOwnWrongFalsely : Prop := framesOwnRow.holds Try.pinned (OpenSpec.ofChange framesOwnWrong)

/-- 'turnbucklelaw04.FramesWrites': WHATEVER THE INPUT: true; the input reads as it did. -/
def framesWritesSpec : ChangeSpec := { name := "framesWrites", fn := fun _ => fun
  | [d1, d2] => { results := [.lit (.bool true)], args := [d1, d2] }
  | _ => none }
def framesWritesRow : OpenClaim := { program := "ytpdchohbmmfemaa", sum := "e57235fb84b941dd86a898da4d6f73515b9c5294e63f69b77b237175883e6939", func := "turnbuckle/turnbucklelaw04.FramesWrites", spec := "framesWrites", unfollowed := true, recurses := true, apart := false }
def FramesWritesSaid : Prop := framesWritesRow.holds Try.pinned (OpenSpec.ofChange framesWritesSpec)

/-- ITS FALSE NEIGHBOUR: 'it returns false'. Refute it at one input. -/
def framesWritesWrong : ChangeSpec := { name := "framesWrites", fn := fun _ => fun
  | [d1, d2] => { results := [.lit (.bool false)], args := [d1, d2] }
  | _ => none }
def FramesWritesWrongFalsely : Prop := framesWritesRow.holds Try.pinned (OpenSpec.ofChange framesWritesWrong)

/- THE SECOND FORM. 'bulk': how many values and letters a reading holds, each counted each time it is reached (what is shared counts as often as it is met; a slice's spare places count too). A statement '..UptoSaid' is the law's where the arguments, and the package variables that the reading takes, are together of bulk at most 1048576: NARROWER than '..Said'. Prove '..Said' where nothing that the law and all that it calls make is longer than what came in: it says more and counts as full. Else prove '..UptoSaid'. A law counts once. -/
mutual
def uptoBulk {H : Type} : DataW H → Nat
  | .lit (.string bytes) => bytes.length + 1
  | .lit _ => 1
  | .nil => 1
  | .ptr d => uptoBulk d + 1
  | .slice elems spare => uptoBulkAll elems + uptoBulkAll spare + 1
  | .agg parts => uptoBulkAll parts + 1
  | .iface _ d => uptoBulk d + 1
  | .map entries => uptoBulkEntries entries + 1
  | .held _ => 1
def uptoBulkAll {H : Type} : List (DataW H) → Nat
  | [] => 0
  | d :: r => uptoBulk d + uptoBulkAll r
def uptoBulkEntries {H : Type} : List (Lit × DataW H) → Nat
  | [] => 0
  | x :: r => uptoBulkEntry x + uptoBulkEntries r
def uptoBulkEntry {H : Type} : Lit × DataW H → Nat
  | (.string bytes, d) => bytes.length + uptoBulk d + 1
  | (_, d) => uptoBulk d + 1
 end
def uptoSmall : (H : Type) → List (DataW H) → Bool := fun _ ds => decide (uptoBulkAll ds ≤ 1048576)
def OpenSpec.upto (s : _root_.Go.ChangeSpec) : _root_.Go.OpenSpec := { _root_.Go.OpenSpec.ofChange s with cond := some uptoSmall }

/-- 'turnbucklelaw04.FramesBack', WHERE WHAT IT READS IS OF BULK AT MOST 1048576: true; the input reads as it did. -/
def framesBackUptoRow : OpenClaim := { program := "ytpdchohbmmfemaa", sum := "e57235fb84b941dd86a898da4d6f73515b9c5294e63f69b77b237175883e6939", func := "turnbuckle/turnbucklelaw04.FramesBack", spec := "framesBack", unfollowed := true, recurses := true, apart := false, narrowed := true }
def FramesBackUptoSaid : Prop := framesBackUptoRow.holds Try.pinned (OpenSpec.upto framesBackSpec)

/-- 'turnbucklelaw04.FramesAgain', WHERE WHAT IT READS IS OF BULK AT MOST 1048576: true; the input reads as it did. -/
def framesAgainUptoRow : OpenClaim := { program := "ytpdchohbmmfemaa", sum := "e57235fb84b941dd86a898da4d6f73515b9c5294e63f69b77b237175883e6939", func := "turnbuckle/turnbucklelaw04.FramesAgain", spec := "framesAgain", unfollowed := true, recurses := true, apart := false, narrowed := true }
def FramesAgainUptoSaid : Prop := framesAgainUptoRow.holds Try.pinned (OpenSpec.upto framesAgainSpec)

/-- 'turnbucklelaw04.FramesBoth', WHERE WHAT IT READS IS OF BULK AT MOST 1048576: true; the input reads as it did. -/
def framesBothUptoRow : OpenClaim := { program := "ytpdchohbmmfemaa", sum := "e57235fb84b941dd86a898da4d6f73515b9c5294e63f69b77b237175883e6939", func := "turnbuckle/turnbucklelaw04.FramesBoth", spec := "framesBoth", unfollowed := true, recurses := true, apart := false, narrowed := true }
def FramesBothUptoSaid : Prop := framesBothUptoRow.holds Try.pinned (OpenSpec.upto framesBothSpec)

/-- 'turnbucklelaw04.FramesFirst', WHERE WHAT IT READS IS OF BULK AT MOST 1048576: true; the input reads as it did. -/
def framesFirstUptoRow : OpenClaim := { program := "ytpdchohbmmfemaa", sum := "e57235fb84b941dd86a898da4d6f73515b9c5294e63f69b77b237175883e6939", func := "turnbuckle/turnbucklelaw04.FramesFirst", spec := "framesFirst", unfollowed := true, recurses := true, apart := false, narrowed := true }
def FramesFirstUptoSaid : Prop := framesFirstUptoRow.holds Try.pinned (OpenSpec.upto framesFirstSpec)

/-- 'turnbucklelaw04.FramesOwn', WHERE WHAT IT READS IS OF BULK AT MOST 1048576: true; the input reads as it did. -/
def framesOwnUptoRow : OpenClaim := { program := "ytpdchohbmmfemaa", sum := "e57235fb84b941dd86a898da4d6f73515b9c5294e63f69b77b237175883e6939", func := "turnbuckle/turnbucklelaw04.FramesOwn", spec := "framesOwn", unfollowed := true, recurses := true, apart := false, narrowed := true }
def FramesOwnUptoSaid : Prop := framesOwnUptoRow.holds Try.pinned (OpenSpec.upto framesOwnSpec)

/-- 'turnbucklelaw04.FramesWrites', WHERE WHAT IT READS IS OF BULK AT MOST 1048576: true; the input reads as it did. -/
def framesWritesUptoRow : OpenClaim := { program := "ytpdchohbmmfemaa", sum := "e57235fb84b941dd86a898da4d6f73515b9c5294e63f69b77b237175883e6939", func := "turnbuckle/turnbucklelaw04.FramesWrites", spec := "framesWrites", unfollowed := true, recurses := true, apart := false, narrowed := true }
def FramesWritesUptoSaid : Prop := framesWritesUptoRow.holds Try.pinned (OpenSpec.upto framesWritesSpec)

end Rows
end Go.Proofs.Ytpdchohbmmfemaa
