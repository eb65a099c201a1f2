/-
  No cell of these rows narrows 'for every input' (looked for: loops, veiled, ifaces, maps, wideKeys, modest, calm, conditions, laid).
  DERIVED. THE GIVEN ROWS OF THIS SEAT. 7 by the template 'for every input the law returns true; each argument reads behind the call as it read before'; 0 by the template 'total and deterministic' (their statements: YthenkaklhaehbaaTotals.lean).
  GIVEN WITH THE SEED: the statements are not yours to turn. If you find one false, say at which input.
  Laid BY PROGRAM, IN A SANDBOX (cutbox-rows.mjs): the forced cells as the released guide's own fill.sh prints them over the translation b69dc30b2d78d086… (all of the seat's roots in one cut). By AI agents, Wed Nov 11 2026. No macro, syntax, notation, axiom, sorry.
-/
import Derived.Test.YthenkaklhaehbaaChecked
import GoSem.Claim
import GoSem.ClaimJoined
import GoSem.ClaimMapViews
import Derived.JoinedTies
import Derived.KernelRfl
namespace Go.Proofs.Ythenkaklhaehbaa
/- THE CELL 'sum', in the pinned program and in every row, IS THE sha256 OF THE DUMP (.gsa) THAT YthenkaklhaehbaaProg.lean LOADS. Nothing in Lean hashes anything: it is a label: what it is worth is what the hold of that sum in a sandbox is worth. -/
noncomputable def Try.pinned : Pinned := { name := "ythenkaklhaehbaa", sum := "b69dc30b2d78d08684d75522450639578f63cbf2407636489bac54c451209241", checked := Try.checked }
namespace Rows
def none {H : Type} : Left H := { results := [], args := [] }

/-- 'turnbucklelaw02.TagOf': WHATEVER THE INPUT: true; the input reads as it did. -/
def tagOfSpec : ChangeSpec := { name := "tagOf", fn := fun _ => fun
  | [d1, d2] => { results := [.lit (.bool true)], args := [d1, d2] }
  | _ => none }
def tagOfRow : OpenClaim := { program := "ythenkaklhaehbaa", sum := "b69dc30b2d78d08684d75522450639578f63cbf2407636489bac54c451209241", func := "turnbuckle/turnbucklelaw02.TagOf", spec := "tagOf", apart := false }
def TagOfSaid : Prop := tagOfRow.holds Try.pinned (OpenSpec.ofChange tagOfSpec)

/-- ITS FALSE NEIGHBOUR: 'it returns false'. Refute it at one input. -/
def tagOfWrong : ChangeSpec := { name := "tagOf", fn := fun _ => fun
  | [d1, d2] => { results := [.lit (.bool false)], args := [d1, d2] }
  | _ => none }
def TagOfWrongFalsely : Prop := tagOfRow.holds Try.pinned (OpenSpec.ofChange tagOfWrong)

/-- 'turnbucklelaw02.TagUnlike': WHATEVER THE INPUT: true; the input reads as it did. -/
def tagUnlikeSpec : ChangeSpec := { name := "tagUnlike", fn := fun _ => fun
  | [d1, d2, d3] => { results := [.lit (.bool true)], args := [d1, d2, d3] }
  | _ => none }
def tagUnlikeRow : OpenClaim := { program := "ythenkaklhaehbaa", sum := "b69dc30b2d78d08684d75522450639578f63cbf2407636489bac54c451209241", func := "turnbuckle/turnbucklelaw02.TagUnlike", spec := "tagUnlike", apart := false }
def TagUnlikeSaid : Prop := tagUnlikeRow.holds Try.pinned (OpenSpec.ofChange tagUnlikeSpec)

/-- ITS FALSE NEIGHBOUR: 'it returns false'. Refute it at one input. -/
def tagUnlikeWrong : ChangeSpec := { name := "tagUnlike", fn := fun _ => fun
  | [d1, d2, d3] => { results := [.lit (.bool false)], args := [d1, d2, d3] }
  | _ => none }
def TagUnlikeWrongFalsely : Prop := tagUnlikeRow.holds Try.pinned (OpenSpec.ofChange tagUnlikeWrong)

/-- 'turnbucklelaw02.TagOpens': WHATEVER THE INPUT: true; the input reads as it did. -/
def tagOpensSpec : ChangeSpec := { name := "tagOpens", fn := fun _ => fun
  | [d1, d2] => { results := [.lit (.bool true)], args := [d1, d2] }
  | _ => none }
def tagOpensRow : OpenClaim := { program := "ythenkaklhaehbaa", sum := "b69dc30b2d78d08684d75522450639578f63cbf2407636489bac54c451209241", func := "turnbuckle/turnbucklelaw02.TagOpens", spec := "tagOpens", apart := false }
def TagOpensSaid : Prop := tagOpensRow.holds Try.pinned (OpenSpec.ofChange tagOpensSpec)

/-- ITS FALSE NEIGHBOUR: 'it returns false'. Refute it at one input. -/
def tagOpensWrong : ChangeSpec := { name := "tagOpens", fn := fun _ => fun
  | [d1, d2] => { results := [.lit (.bool false)], args := [d1, d2] }
  | _ => none }
def TagOpensWrongFalsely : Prop := tagOpensRow.holds Try.pinned (OpenSpec.ofChange tagOpensWrong)

/-- 'turnbucklelaw02.TagBack': WHATEVER THE INPUT: true; the input reads as it did. -/
def tagBackSpec : ChangeSpec := { name := "tagBack", fn := fun _ => fun
  | [d1, d2] => { results := [.lit (.bool true)], args := [d1, d2] }
  | _ => none }
def tagBackRow : OpenClaim := { program := "ythenkaklhaehbaa", sum := "b69dc30b2d78d08684d75522450639578f63cbf2407636489bac54c451209241", func := "turnbuckle/turnbucklelaw02.TagBack", spec := "tagBack", apart := false }
def TagBackSaid : Prop := tagBackRow.holds Try.pinned (OpenSpec.ofChange tagBackSpec)

/-- ITS FALSE NEIGHBOUR: 'it returns false'. Refute it at one input. -/
def tagBackWrong : ChangeSpec := { name := "tagBack", fn := fun _ => fun
  | [d1, d2] => { results := [.lit (.bool false)], args := [d1, d2] }
  | _ => none }
def TagBackWrongFalsely : Prop := tagBackRow.holds Try.pinned (OpenSpec.ofChange tagBackWrong)

/-- 'turnbucklelaw02.TagTurned': WHATEVER THE INPUT: true; the input reads as it did. -/
def tagTurnedSpec : ChangeSpec := { name := "tagTurned", fn := fun _ => fun
  | [d1, d2, d3] => { results := [.lit (.bool true)], args := [d1, d2, d3] }
  | _ => none }
def tagTurnedRow : OpenClaim := { program := "ythenkaklhaehbaa", sum := "b69dc30b2d78d08684d75522450639578f63cbf2407636489bac54c451209241", func := "turnbuckle/turnbucklelaw02.TagTurned", spec := "tagTurned", apart := false }
def TagTurnedSaid : Prop := tagTurnedRow.holds Try.pinned (OpenSpec.ofChange tagTurnedSpec)

/-- ITS FALSE NEIGHBOUR: 'it returns false'. Refute it at one input. -/
def tagTurnedWrong : ChangeSpec := { name := "tagTurned", fn := fun _ => fun
  | [d1, d2, d3] => { results := [.lit (.bool false)], args := [d1, d2, d3] }
  | _ => none }
def TagTurnedWrongFalsely : Prop := tagTurnedRow.holds Try.pinned (OpenSpec.ofChange tagTurnedWrong)

/-- 'turnbucklelaw02.TagKeys': WHATEVER THE INPUT: true; the input reads as it did. -/
def tagKeysSpec : ChangeSpec := { name := "tagKeys", fn := fun _ => fun
  | [d1, d2, d3] => { results := [.lit (.bool true)], args := [d1, d2, d3] }
  | _ => none }
def tagKeysRow : OpenClaim := { program := "ythenkaklhaehbaa", sum := "b69dc30b2d78d08684d75522450639578f63cbf2407636489bac54c451209241", func := "turnbuckle/turnbucklelaw02.TagKeys", spec := "tagKeys", apart := false }
def TagKeysSaid : Prop := tagKeysRow.holds Try.pinned (OpenSpec.ofChange tagKeysSpec)

/-- ITS FALSE NEIGHBOUR: 'it returns false'. Refute it at one input. -/
def tagKeysWrong : ChangeSpec := { name := "tagKeys", fn := fun _ => fun
  | [d1, d2, d3] => { results := [.lit (.bool false)], args := [d1, d2, d3] }
  | _ => none }
def TagKeysWrongFalsely : Prop := tagKeysRow.holds Try.pinned (OpenSpec.ofChange tagKeysWrong)

/-- 'turnbucklelaw02.TagOwn': WHATEVER THE INPUT: true; the input reads as it did. -/
def tagOwnSpec : ChangeSpec := { name := "tagOwn", fn := fun _ => fun
  | [d1, d2] => { results := [.lit (.bool true)], args := [d1, d2] }
  | _ => none }
def tagOwnRow : OpenClaim := { program := "ythenkaklhaehbaa", sum := "b69dc30b2d78d08684d75522450639578f63cbf2407636489bac54c451209241", func := "turnbuckle/turnbucklelaw02.TagOwn", spec := "tagOwn", apart := false }
def TagOwnSaid : Prop := tagOwnRow.holds Try.pinned (OpenSpec.ofChange tagOwnSpec)

/-- ITS FALSE NEIGHBOUR: 'it returns false'. Refute it at one input. -/
def tagOwnWrong : ChangeSpec := { name := "tagOwn", fn := fun _ => fun
  | [d1, d2] => { results := [.lit (.bool false)], args := [d1, d2] }
  | _ => none }
def TagOwnWrongFalsely : Prop := tagOwnRow.holds Try.pinned (OpenSpec.ofChange tagOwnWrong)

/- THE SECOND FORM. 'bulk': how many values and letters a reading holds, each counted each time it is reached (what is shared counts as often as it is met; a slice's spare places count too). A statement '..UptoSaid' is the law's where the arguments, and the package variables that the reading takes, are together of bulk at most 1048576: NARROWER than '..Said'. Prove '..Said' where nothing that the law and all that it calls make is longer than what came in: it says more and counts as full. Else prove '..UptoSaid'. A law counts once. -/
mutual
def uptoBulk {H : Type} : DataW H → Nat
  | .lit (.string bytes) => bytes.length + 1
  | .lit _ => 1
  | .nil => 1
  | .ptr d => uptoBulk d + 1
  | .slice elems spare => uptoBulkAll elems + uptoBulkAll spare + 1
  | .agg parts => uptoBulkAll parts + 1
  | .iface _ d => uptoBulk d + 1
  | .map entries => uptoBulkEntries entries + 1
  | .held _ => 1
def uptoBulkAll {H : Type} : List (DataW H) → Nat
  | [] => 0
  | d :: r => uptoBulk d + uptoBulkAll r
def uptoBulkEntries {H : Type} : List (Lit × DataW H) → Nat
  | [] => 0
  | x :: r => uptoBulkEntry x + uptoBulkEntries r
def uptoBulkEntry {H : Type} : Lit × DataW H → Nat
  | (.string bytes, d) => bytes.length + uptoBulk d + 1
  | (_, d) => uptoBulk d + 1
 end
def uptoSmall : (H : Type) → List (DataW H) → Bool := fun _ ds => decide (uptoBulkAll ds ≤ 1048576)
def OpenSpec.upto (s : _root_.Go.ChangeSpec) : _root_.Go.OpenSpec := { _root_.Go.OpenSpec.ofChange s with cond := some uptoSmall }

/-- 'turnbucklelaw02.TagOf', WHERE WHAT IT READS IS OF BULK AT MOST 1048576: true; the input reads as it did. -/
def tagOfUptoRow : OpenClaim := { program := "ythenkaklhaehbaa", sum := "b69dc30b2d78d08684d75522450639578f63cbf2407636489bac54c451209241", func := "turnbuckle/turnbucklelaw02.TagOf", spec := "tagOf", apart := false, narrowed := true }
def TagOfUptoSaid : Prop := tagOfUptoRow.holds Try.pinned (OpenSpec.upto tagOfSpec)

/-- 'turnbucklelaw02.TagUnlike', WHERE WHAT IT READS IS OF BULK AT MOST 1048576: true; the input reads as it did. -/
def tagUnlikeUptoRow : OpenClaim := { program := "ythenkaklhaehbaa", sum := "b69dc30b2d78d08684d75522450639578f63cbf2407636489bac54c451209241", func := "turnbuckle/turnbucklelaw02.TagUnlike", spec := "tagUnlike", apart := false, narrowed := true }
def TagUnlikeUptoSaid : Prop := tagUnlikeUptoRow.holds Try.pinned (OpenSpec.upto tagUnlikeSpec)

/-- 'turnbucklelaw02.TagOpens', WHERE WHAT IT READS IS OF BULK AT MOST 1048576: true; the input reads as it did. -/
def tagOpensUptoRow : OpenClaim := { program := "ythenkaklhaehbaa", sum := "b69dc30b2d78d08684d75522450639578f63cbf2407636489bac54c451209241", func := "turnbuckle/turnbucklelaw02.TagOpens", spec := "tagOpens", apart := false, narrowed := true }
def TagOpensUptoSaid : Prop := tagOpensUptoRow.holds Try.pinned (OpenSpec.upto tagOpensSpec)

/-- 'turnbucklelaw02.TagBack', WHERE WHAT IT READS IS OF BULK AT MOST 1048576: true; the input reads as it did. -/
def tagBackUptoRow : OpenClaim := { program := "ythenkaklhaehbaa", sum := "b69dc30b2d78d08684d75522450639578f63cbf2407636489bac54c451209241", func := "turnbuckle/turnbucklelaw02.TagBack", spec := "tagBack", apart := false, narrowed := true }
def TagBackUptoSaid : Prop := tagBackUptoRow.holds Try.pinned (OpenSpec.upto tagBackSpec)

/-- 'turnbucklelaw02.TagTurned', WHERE WHAT IT READS IS OF BULK AT MOST 1048576: true; the input reads as it did. -/
def tagTurnedUptoRow : OpenClaim := { program := "ythenkaklhaehbaa", sum := "b69dc30b2d78d08684d75522450639578f63cbf2407636489bac54c451209241", func := "turnbuckle/turnbucklelaw02.TagTurned", spec := "tagTurned", apart := false, narrowed := true }
def TagTurnedUptoSaid : Prop := tagTurnedUptoRow.holds Try.pinned (OpenSpec.upto tagTurnedSpec)

/-- 'turnbucklelaw02.TagKeys', WHERE WHAT IT READS IS OF BULK AT MOST 1048576: true; the input reads as it did. -/
def tagKeysUptoRow : OpenClaim := { program := "ythenkaklhaehbaa", sum := "b69dc30b2d78d08684d75522450639578f63cbf2407636489bac54c451209241", func := "turnbuckle/turnbucklelaw02.TagKeys", spec := "tagKeys", apart := false, narrowed := true }
def TagKeysUptoSaid : Prop := tagKeysUptoRow.holds Try.pinned (OpenSpec.upto tagKeysSpec)

/-- 'turnbucklelaw02.TagOwn', WHERE WHAT IT READS IS OF BULK AT MOST 1048576: true; the input reads as it did. -/
def tagOwnUptoRow : OpenClaim := { program := "ythenkaklhaehbaa", sum := "b69dc30b2d78d08684d75522450639578f63cbf2407636489bac54c451209241", func := "turnbuckle/turnbucklelaw02.TagOwn", spec := "tagOwn", apart := false, narrowed := true }
def TagOwnUptoSaid : Prop := tagOwnUptoRow.holds Try.pinned (OpenSpec.upto tagOwnSpec)

end Rows
end Go.Proofs.Ythenkaklhaehbaa
