/-
  No cell of these rows narrows 'for every input' (looked for: loops, veiled, ifaces, maps, wideKeys, modest, calm, conditions, laid).
  DERIVED. THE GIVEN ROWS OF THIS SEAT. 5 by the template 'for every input the law returns true; each argument reads behind the call as it read before'; 0 by the template 'total and deterministic' (their statements: YtpdijecmblgmgaaTotals.lean).
  GIVEN WITH THE SEED: the statements are not yours to turn. If you find one false, say at which input.
  Laid BY PROGRAM, IN A SANDBOX (cutbox-rows.mjs): the forced cells as the released guide's own fill.sh prints them over the translation c841665b0861568f… (all of the seat's roots in one cut). By AI agents, Wed Nov 11 2026. No macro, syntax, notation, axiom, sorry.
-/
import Derived.Test.YtpdijecmblgmgaaChecked
import GoSem.Claim
import GoSem.ClaimJoined
import GoSem.ClaimMapViews
import Derived.JoinedTies
import Derived.KernelRfl
namespace Go.Proofs.Ytpdijecmblgmgaa
/- THE CELL 'sum', in the pinned program and in every row, IS THE sha256 OF THE DUMP (.gsa) THAT YtpdijecmblgmgaaProg.lean LOADS. Nothing in Lean hashes anything: it is a label: what it is worth is what the hold of that sum in a sandbox is worth. -/
noncomputable def Try.pinned : Pinned := { name := "ytpdijecmblgmgaa", sum := "c841665b0861568f185cea06c69e913cd7ce4d98d07f4a47579005ae3401b242", checked := Try.checked }
namespace Rows
def none {H : Type} : Left H := { results := [], args := [] }

/-- 'turnbucklelaw11.PintPuts': WHATEVER THE INPUT: true; the input reads as it did. -/
def pintPutsSpec : ChangeSpec := { name := "pintPuts", fn := fun _ => fun
  | [d1, d2] => { results := [.lit (.bool true)], args := [d1, d2] }
  | _ => none }
def pintPutsRow : OpenClaim := { program := "ytpdijecmblgmgaa", sum := "c841665b0861568f185cea06c69e913cd7ce4d98d07f4a47579005ae3401b242", func := "turnbuckle/turnbucklelaw11.PintPuts", spec := "pintPuts", apart := false }
def PintPutsSaid : Prop := pintPutsRow.holds Try.pinned (OpenSpec.ofChange pintPutsSpec)

/-- ITS FALSE NEIGHBOUR: 'it returns false'. Refute it at one input. -/
def pintPutsWrong : ChangeSpec := { name := "pintPuts", fn := fun _ => fun
  | [d1, d2] => { results := [.lit (.bool false)], args := [d1, d2] }
  | _ => none }
def PintPutsWrongFalsely : Prop := pintPutsRow.holds Try.pinned (OpenSpec.ofChange pintPutsWrong)

/-- 'turnbucklelaw11.PintBack': WHATEVER THE INPUT: true; the input reads as it did. -/
def pintBackSpec : ChangeSpec := { name := "pintBack", fn := fun _ => fun
  | [d1, d2, d3] => { results := [.lit (.bool true)], args := [d1, d2, d3] }
  | _ => none }
def pintBackRow : OpenClaim := { program := "ytpdijecmblgmgaa", sum := "c841665b0861568f185cea06c69e913cd7ce4d98d07f4a47579005ae3401b242", func := "turnbuckle/turnbucklelaw11.PintBack", spec := "pintBack", apart := false }
def PintBackSaid : Prop := pintBackRow.holds Try.pinned (OpenSpec.ofChange pintBackSpec)

/-- ITS FALSE NEIGHBOUR: 'it returns false'. Refute it at one input. -/
def pintBackWrong : ChangeSpec := { name := "pintBack", fn := fun _ => fun
  | [d1, d2, d3] => { results := [.lit (.bool false)], args := [d1, d2, d3] }
  | _ => none }
def PintBackWrongFalsely : Prop := pintBackRow.holds Try.pinned (OpenSpec.ofChange pintBackWrong)

/-- 'turnbucklelaw11.PintFew': WHATEVER THE INPUT: true; the input reads as it did. -/
def pintFewSpec : ChangeSpec := { name := "pintFew", fn := fun _ => fun
  | [d1, d2, d3] => { results := [.lit (.bool true)], args := [d1, d2, d3] }
  | _ => none }
def pintFewRow : OpenClaim := { program := "ytpdijecmblgmgaa", sum := "c841665b0861568f185cea06c69e913cd7ce4d98d07f4a47579005ae3401b242", func := "turnbuckle/turnbucklelaw11.PintFew", spec := "pintFew", apart := false }
def PintFewSaid : Prop := pintFewRow.holds Try.pinned (OpenSpec.ofChange pintFewSpec)

/-- ITS FALSE NEIGHBOUR: 'it returns false'. Refute it at one input. -/
def pintFewWrong : ChangeSpec := { name := "pintFew", fn := fun _ => fun
  | [d1, d2, d3] => { results := [.lit (.bool false)], args := [d1, d2, d3] }
  | _ => none }
def PintFewWrongFalsely : Prop := pintFewRow.holds Try.pinned (OpenSpec.ofChange pintFewWrong)

/-- 'turnbucklelaw11.PintGrows': WHATEVER THE INPUT: true; the input reads as it did. -/
def pintGrowsSpec : ChangeSpec := { name := "pintGrows", fn := fun _ => fun
  | [d1, d2, d3] => { results := [.lit (.bool true)], args := [d1, d2, d3] }
  | _ => none }
def pintGrowsRow : OpenClaim := { program := "ytpdijecmblgmgaa", sum := "c841665b0861568f185cea06c69e913cd7ce4d98d07f4a47579005ae3401b242", func := "turnbuckle/turnbucklelaw11.PintGrows", spec := "pintGrows", apart := false }
def PintGrowsSaid : Prop := pintGrowsRow.holds Try.pinned (OpenSpec.ofChange pintGrowsSpec)

/-- ITS FALSE NEIGHBOUR: 'it returns false'. Refute it at one input. -/
def pintGrowsWrong : ChangeSpec := { name := "pintGrows", fn := fun _ => fun
  | [d1, d2, d3] => { results := [.lit (.bool false)], args := [d1, d2, d3] }
  | _ => none }
def PintGrowsWrongFalsely : Prop := pintGrowsRow.holds Try.pinned (OpenSpec.ofChange pintGrowsWrong)

/-- 'turnbucklelaw11.PintOwn': WHATEVER THE INPUT: true; the input reads as it did. -/
def pintOwnSpec : ChangeSpec := { name := "pintOwn", fn := fun _ => fun
  | [d1, d2] => { results := [.lit (.bool true)], args := [d1, d2] }
  | _ => none }
def pintOwnRow : OpenClaim := { program := "ytpdijecmblgmgaa", sum := "c841665b0861568f185cea06c69e913cd7ce4d98d07f4a47579005ae3401b242", func := "turnbuckle/turnbucklelaw11.PintOwn", spec := "pintOwn", apart := false }
def PintOwnSaid : Prop := pintOwnRow.holds Try.pinned (OpenSpec.ofChange pintOwnSpec)

/-- ITS FALSE NEIGHBOUR: 'it returns false'. Refute it at one input. -/
def pintOwnWrong : ChangeSpec := { name := "pintOwn", fn := fun _ => fun
  | [d1, d2] => { results := [.lit (.bool false)], args := [d1, d2] }
  | _ => none }
def PintOwnWrongFalsely : Prop := pintOwnRow.holds Try.pinned (OpenSpec.ofChange pintOwnWrong)

/- THE SECOND FORM. 'bulk': how many values and letters a reading holds, each counted each time it is reached (what is shared counts as often as it is met; a slice's spare places count too). A statement '..UptoSaid' is the law's where the arguments, and the package variables that the reading takes, are together of bulk at most 1048576: NARROWER than '..Said'. Prove '..Said' where nothing that the law and all that it calls make is longer than what came in: it says more and counts as full. Else prove '..UptoSaid'. A law counts once. -/
mutual
def uptoBulk {H : Type} : DataW H → Nat
  | .lit (.string bytes) => bytes.length + 1
  | .lit _ => 1
  | .nil => 1
  | .ptr d => uptoBulk d + 1
  | .slice elems spare => uptoBulkAll elems + uptoBulkAll spare + 1
  | .agg parts => uptoBulkAll parts + 1
  | .iface _ d => uptoBulk d + 1
  | .map entries => uptoBulkEntries entries + 1
  | .held _ => 1
def uptoBulkAll {H : Type} : List (DataW H) → Nat
  | [] => 0
  | d :: r => uptoBulk d + uptoBulkAll r
def uptoBulkEntries {H : Type} : List (Lit × DataW H) → Nat
  | [] => 0
  | x :: r => uptoBulkEntry x + uptoBulkEntries r
def uptoBulkEntry {H : Type} : Lit × DataW H → Nat
  | (.string bytes, d) => bytes.length + uptoBulk d + 1
  | (_, d) => uptoBulk d + 1
 end
def uptoSmall : (H : Type) → List (DataW H) → Bool := fun _ ds => decide (uptoBulkAll ds ≤ 1048576)
def OpenSpec.upto (s : _root_.Go.ChangeSpec) : _root_.Go.OpenSpec := { _root_.Go.OpenSpec.ofChange s with cond := some uptoSmall }

/-- 'turnbucklelaw11.PintPuts', WHERE WHAT IT READS IS OF BULK AT MOST 1048576: true; the input reads as it did. -/
def pintPutsUptoRow : OpenClaim := { program := "ytpdijecmblgmgaa", sum := "c841665b0861568f185cea06c69e913cd7ce4d98d07f4a47579005ae3401b242", func := "turnbuckle/turnbucklelaw11.PintPuts", spec := "pintPuts", apart := false, narrowed := true }
def PintPutsUptoSaid : Prop := pintPutsUptoRow.holds Try.pinned (OpenSpec.upto pintPutsSpec)

/-- 'turnbucklelaw11.PintBack', WHERE WHAT IT READS IS OF BULK AT MOST 1048576: true; the input reads as it did. -/
def pintBackUptoRow : OpenClaim := { program := "ytpdijecmblgmgaa", sum := "c841665b0861568f185cea06c69e913cd7ce4d98d07f4a47579005ae3401b242", func := "turnbuckle/turnbucklelaw11.PintBack", spec := "pintBack", apart := false, narrowed := true }
def PintBackUptoSaid : Prop := pintBackUptoRow.holds Try.pinned (OpenSpec.upto pintBackSpec)

/-- 'turnbucklelaw11.PintFew', WHERE WHAT IT READS IS OF BULK AT MOST 1048576: true; the input reads as it did. -/
def pintFewUptoRow : OpenClaim := { program := "ytpdijecmblgmgaa", sum := "c841665b0861568f185cea06c69e913cd7ce4d98d07f4a47579005ae3401b242", func := "turnbuckle/turnbucklelaw11.PintFew", spec := "pintFew", apart := false, narrowed := true }
def PintFewUptoSaid : Prop := pintFewUptoRow.holds Try.pinned (OpenSpec.upto pintFewSpec)

/-- 'turnbucklelaw11.PintGrows', WHERE WHAT IT READS IS OF BULK AT MOST 1048576: true; the input reads as it did. -/
def pintGrowsUptoRow : OpenClaim := { program := "ytpdijecmblgmgaa", sum := "c841665b0861568f185cea06c69e913cd7ce4d98d07f4a47579005ae3401b242", func := "turnbuckle/turnbucklelaw11.PintGrows", spec := "pintGrows", apart := false, narrowed := true }
def PintGrowsUptoSaid : Prop := pintGrowsUptoRow.holds Try.pinned (OpenSpec.upto pintGrowsSpec)

/-- 'turnbucklelaw11.PintOwn', WHERE WHAT IT READS IS OF BULK AT MOST 1048576: true; the input reads as it did. -/
def pintOwnUptoRow : OpenClaim := { program := "ytpdijecmblgmgaa", sum := "c841665b0861568f185cea06c69e913cd7ce4d98d07f4a47579005ae3401b242", func := "turnbuckle/turnbucklelaw11.PintOwn", spec := "pintOwn", apart := false, narrowed := true }
def PintOwnUptoSaid : Prop := pintOwnUptoRow.holds Try.pinned (OpenSpec.upto pintOwnSpec)

end Rows
end Go.Proofs.Ytpdijecmblgmgaa
