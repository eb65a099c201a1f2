/-
  No cell of these rows narrows 'for every input' (looked for: loops, veiled, ifaces, maps, wideKeys, modest, calm, conditions, laid).
  DERIVED. THE GIVEN ROWS OF THIS SEAT. 5 by the template 'for every input the law returns true; each argument reads behind the call as it read before'; 0 by the template 'total and deterministic' (their statements: YtdjeadgebcndeaaTotals.lean).
  GIVEN WITH THE SEED: the statements are not yours to turn. If you find one false, say at which input.
  Laid BY PROGRAM, IN A SANDBOX (cutbox-rows.mjs): the forced cells as the released guide's own fill.sh prints them over the translation 4f7c2366749dd7c1… (all of the seat's roots in one cut). By AI agents, Wed Nov 11 2026. No macro, syntax, notation, axiom, sorry.
-/
import Derived.Test.YtdjeadgebcndeaaChecked
import GoSem.Claim
import GoSem.ClaimJoined
import GoSem.ClaimMapViews
import Derived.JoinedTies
import Derived.KernelRfl
namespace Go.Proofs.Ytdjeadgebcndeaa
/- THE CELL 'sum', in the pinned program and in every row, IS THE sha256 OF THE DUMP (.gsa) THAT YtdjeadgebcndeaaProg.lean LOADS. Nothing in Lean hashes anything: it is a label: what it is worth is what the hold of that sum in a sandbox is worth. -/
noncomputable def Try.pinned : Pinned := { name := "ytdjeadgebcndeaa", sum := "4f7c2366749dd7c1ddaaa1f0b71a546277a1ecf7c542a4a691cbbabce5d6aa18", checked := Try.checked }
namespace Rows
def none {H : Type} : Left H := { results := [], args := [] }

/-- 'turnbucklelaw09.ReasmBack': WHATEVER THE INPUT: true; the input reads as it did. -/
def reasmBackSpec : ChangeSpec := { name := "reasmBack", fn := fun _ => fun
  | [d1, d2, d3] => { results := [.lit (.bool true)], args := [d1, d2, d3] }
  | _ => none }
def reasmBackRow : OpenClaim := { program := "ytdjeadgebcndeaa", sum := "4f7c2366749dd7c1ddaaa1f0b71a546277a1ecf7c542a4a691cbbabce5d6aa18", func := "turnbuckle/turnbucklelaw09.ReasmBack", spec := "reasmBack", inPlace := ["slices.overlaps[turnbuckle/api.Span]"], apart := false }
def ReasmBackSaid : Prop := reasmBackRow.holds Try.pinned (OpenSpec.ofChange reasmBackSpec)

/-- ITS FALSE NEIGHBOUR: 'it returns false'. Refute it at one input. -/
def reasmBackWrong : ChangeSpec := { name := "reasmBack", fn := fun _ => fun
  | [d1, d2, d3] => { results := [.lit (.bool false)], args := [d1, d2, d3] }
  | _ => none }
def ReasmBackWrongFalsely : Prop := reasmBackRow.holds Try.pinned (OpenSpec.ofChange reasmBackWrong)

/-- 'turnbucklelaw09.ReasmOver': WHATEVER THE INPUT: true; the input reads as it did. -/
def reasmOverSpec : ChangeSpec := { name := "reasmOver", fn := fun _ => fun
  | [d1, d2] => { results := [.lit (.bool true)], args := [d1, d2] }
  | _ => none }
def reasmOverRow : OpenClaim := { program := "ytdjeadgebcndeaa", sum := "4f7c2366749dd7c1ddaaa1f0b71a546277a1ecf7c542a4a691cbbabce5d6aa18", func := "turnbuckle/turnbucklelaw09.ReasmOver", spec := "reasmOver", inPlace := ["slices.overlaps[turnbuckle/api.Span]"], apart := false }
def ReasmOverSaid : Prop := reasmOverRow.holds Try.pinned (OpenSpec.ofChange reasmOverSpec)

/-- ITS FALSE NEIGHBOUR: 'it returns false'. Refute it at one input. -/
def reasmOverWrong : ChangeSpec := { name := "reasmOver", fn := fun _ => fun
  | [d1, d2] => { results := [.lit (.bool false)], args := [d1, d2] }
  | _ => none }
def ReasmOverWrongFalsely : Prop := reasmOverRow.holds Try.pinned (OpenSpec.ofChange reasmOverWrong)

/-- 'turnbucklelaw09.ReasmBounds': WHATEVER THE INPUT: true; the input reads as it did. -/
def reasmBoundsSpec : ChangeSpec := { name := "reasmBounds", fn := fun _ => fun
  | [d1, d2] => { results := [.lit (.bool true)], args := [d1, d2] }
  | _ => none }
def reasmBoundsRow : OpenClaim := { program := "ytdjeadgebcndeaa", sum := "4f7c2366749dd7c1ddaaa1f0b71a546277a1ecf7c542a4a691cbbabce5d6aa18", func := "turnbuckle/turnbucklelaw09.ReasmBounds", spec := "reasmBounds", inPlace := ["slices.overlaps[turnbuckle/api.Span]"], apart := false }
def ReasmBoundsSaid : Prop := reasmBoundsRow.holds Try.pinned (OpenSpec.ofChange reasmBoundsSpec)

/-- ITS FALSE NEIGHBOUR: 'it returns false'. Refute it at one input. -/
def reasmBoundsWrong : ChangeSpec := { name := "reasmBounds", fn := fun _ => fun
  | [d1, d2] => { results := [.lit (.bool false)], args := [d1, d2] }
  | _ => none }
def ReasmBoundsWrongFalsely : Prop := reasmBoundsRow.holds Try.pinned (OpenSpec.ofChange reasmBoundsWrong)

/-- 'turnbucklelaw09.ReasmRefused': WHATEVER THE INPUT: true; the input reads as it did. -/
def reasmRefusedSpec : ChangeSpec := { name := "reasmRefused", fn := fun _ => fun
  | [d1, d2] => { results := [.lit (.bool true)], args := [d1, d2] }
  | _ => none }
def reasmRefusedRow : OpenClaim := { program := "ytdjeadgebcndeaa", sum := "4f7c2366749dd7c1ddaaa1f0b71a546277a1ecf7c542a4a691cbbabce5d6aa18", func := "turnbuckle/turnbucklelaw09.ReasmRefused", spec := "reasmRefused", inPlace := ["slices.overlaps[turnbuckle/api.Span]"], apart := false }
def ReasmRefusedSaid : Prop := reasmRefusedRow.holds Try.pinned (OpenSpec.ofChange reasmRefusedSpec)

/-- ITS FALSE NEIGHBOUR: 'it returns false'. Refute it at one input. -/
def reasmRefusedWrong : ChangeSpec := { name := "reasmRefused", fn := fun _ => fun
  | [d1, d2] => { results := [.lit (.bool false)], args := [d1, d2] }
  | _ => none }
def ReasmRefusedWrongFalsely : Prop := reasmRefusedRow.holds Try.pinned (OpenSpec.ofChange reasmRefusedWrong)

/-- 'turnbucklelaw09.ReasmNobody': WHATEVER THE INPUT: true; the input reads as it did. -/
def reasmNobodySpec : ChangeSpec := { name := "reasmNobody", fn := fun _ => fun
  | [d1, d2] => { results := [.lit (.bool true)], args := [d1, d2] }
  | _ => none }
def reasmNobodyRow : OpenClaim := { program := "ytdjeadgebcndeaa", sum := "4f7c2366749dd7c1ddaaa1f0b71a546277a1ecf7c542a4a691cbbabce5d6aa18", func := "turnbuckle/turnbucklelaw09.ReasmNobody", spec := "reasmNobody", inPlace := ["slices.overlaps[turnbuckle/api.Span]"], apart := false }
def ReasmNobodySaid : Prop := reasmNobodyRow.holds Try.pinned (OpenSpec.ofChange reasmNobodySpec)

/-- ITS FALSE NEIGHBOUR: 'it returns false'. Refute it at one input. -/
def reasmNobodyWrong : ChangeSpec := { name := "reasmNobody", fn := fun _ => fun
  | [d1, d2] => { results := [.lit (.bool false)], args := [d1, d2] }
  | _ => none }
def ReasmNobodyWrongFalsely : Prop := reasmNobodyRow.holds Try.pinned (OpenSpec.ofChange reasmNobodyWrong)

/- THE SECOND FORM. 'bulk': how many values and letters a reading holds, each counted each time it is reached (what is shared counts as often as it is met; a slice's spare places count too). A statement '..UptoSaid' is the law's where the arguments, and the package variables that the reading takes, are together of bulk at most 1048576: NARROWER than '..Said'. Prove '..Said' where nothing that the law and all that it calls make is longer than what came in: it says more and counts as full. Else prove '..UptoSaid'. A law counts once. -/
mutual
def uptoBulk {H : Type} : DataW H → Nat
  | .lit (.string bytes) => bytes.length + 1
  | .lit _ => 1
  | .nil => 1
  | .ptr d => uptoBulk d + 1
  | .slice elems spare => uptoBulkAll elems + uptoBulkAll spare + 1
  | .agg parts => uptoBulkAll parts + 1
  | .iface _ d => uptoBulk d + 1
  | .map entries => uptoBulkEntries entries + 1
  | .held _ => 1
def uptoBulkAll {H : Type} : List (DataW H) → Nat
  | [] => 0
  | d :: r => uptoBulk d + uptoBulkAll r
def uptoBulkEntries {H : Type} : List (Lit × DataW H) → Nat
  | [] => 0
  | x :: r => uptoBulkEntry x + uptoBulkEntries r
def uptoBulkEntry {H : Type} : Lit × DataW H → Nat
  | (.string bytes, d) => bytes.length + uptoBulk d + 1
  | (_, d) => uptoBulk d + 1
 end
def uptoSmall : (H : Type) → List (DataW H) → Bool := fun _ ds => decide (uptoBulkAll ds ≤ 1048576)
def OpenSpec.upto (s : _root_.Go.ChangeSpec) : _root_.Go.OpenSpec := { _root_.Go.OpenSpec.ofChange s with cond := some uptoSmall }

/-- 'turnbucklelaw09.ReasmBack', WHERE WHAT IT READS IS OF BULK AT MOST 1048576: true; the input reads as it did. -/
def reasmBackUptoRow : OpenClaim := { program := "ytdjeadgebcndeaa", sum := "4f7c2366749dd7c1ddaaa1f0b71a546277a1ecf7c542a4a691cbbabce5d6aa18", func := "turnbuckle/turnbucklelaw09.ReasmBack", spec := "reasmBack", inPlace := ["slices.overlaps[turnbuckle/api.Span]"], apart := false, narrowed := true }
def ReasmBackUptoSaid : Prop := reasmBackUptoRow.holds Try.pinned (OpenSpec.upto reasmBackSpec)

/-- 'turnbucklelaw09.ReasmOver', WHERE WHAT IT READS IS OF BULK AT MOST 1048576: true; the input reads as it did. -/
def reasmOverUptoRow : OpenClaim := { program := "ytdjeadgebcndeaa", sum := "4f7c2366749dd7c1ddaaa1f0b71a546277a1ecf7c542a4a691cbbabce5d6aa18", func := "turnbuckle/turnbucklelaw09.ReasmOver", spec := "reasmOver", inPlace := ["slices.overlaps[turnbuckle/api.Span]"], apart := false, narrowed := true }
def ReasmOverUptoSaid : Prop := reasmOverUptoRow.holds Try.pinned (OpenSpec.upto reasmOverSpec)

/-- 'turnbucklelaw09.ReasmBounds', WHERE WHAT IT READS IS OF BULK AT MOST 1048576: true; the input reads as it did. -/
def reasmBoundsUptoRow : OpenClaim := { program := "ytdjeadgebcndeaa", sum := "4f7c2366749dd7c1ddaaa1f0b71a546277a1ecf7c542a4a691cbbabce5d6aa18", func := "turnbuckle/turnbucklelaw09.ReasmBounds", spec := "reasmBounds", inPlace := ["slices.overlaps[turnbuckle/api.Span]"], apart := false, narrowed := true }
def ReasmBoundsUptoSaid : Prop := reasmBoundsUptoRow.holds Try.pinned (OpenSpec.upto reasmBoundsSpec)

/-- 'turnbucklelaw09.ReasmRefused', WHERE WHAT IT READS IS OF BULK AT MOST 1048576: true; the input reads as it did. -/
def reasmRefusedUptoRow : OpenClaim := { program := "ytdjeadgebcndeaa", sum := "4f7c2366749dd7c1ddaaa1f0b71a546277a1ecf7c542a4a691cbbabce5d6aa18", func := "turnbuckle/turnbucklelaw09.ReasmRefused", spec := "reasmRefused", inPlace := ["slices.overlaps[turnbuckle/api.Span]"], apart := false, narrowed := true }
def ReasmRefusedUptoSaid : Prop := reasmRefusedUptoRow.holds Try.pinned (OpenSpec.upto reasmRefusedSpec)

/-- 'turnbucklelaw09.ReasmNobody', WHERE WHAT IT READS IS OF BULK AT MOST 1048576: true; the input reads as it did. -/
def reasmNobodyUptoRow : OpenClaim := { program := "ytdjeadgebcndeaa", sum := "4f7c2366749dd7c1ddaaa1f0b71a546277a1ecf7c542a4a691cbbabce5d6aa18", func := "turnbuckle/turnbucklelaw09.ReasmNobody", spec := "reasmNobody", inPlace := ["slices.overlaps[turnbuckle/api.Span]"], apart := false, narrowed := true }
def ReasmNobodyUptoSaid : Prop := reasmNobodyUptoRow.holds Try.pinned (OpenSpec.upto reasmNobodySpec)

end Rows
end Go.Proofs.Ytdjeadgebcndeaa
