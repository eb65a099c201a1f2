/-
  No cell of these rows narrows 'for every input' (looked for: loops, veiled, ifaces, maps, wideKeys, modest, calm, conditions, laid).
  DERIVED. THE GIVEN ROWS OF THIS SEAT. 4 by the template 'for every input the law returns true; each argument reads behind the call as it read before'; 0 by the template 'total and deterministic' (their statements: YtcbpgbfbffnogaaGreatTotals.lean).
  GIVEN WITH THE SEED: the statements are not yours to turn. If you find one false, say at which input.
  Laid BY PROGRAM, IN A SANDBOX (cutbox-rows.mjs): the forced cells as the released guide's own fill.sh prints them over the translation cbef3a43b7faf74b… (all of the seat's roots in one cut). By AI agents, Wed Nov 11 2026. No macro, syntax, notation, axiom, sorry.
-/
import Derived.Test.YtcbpgbfbffnogaaGreatChecked
import GoSem.Claim
import GoSem.ClaimJoined
import GoSem.ClaimMapViews
import Derived.JoinedTies
import Derived.KernelRfl
namespace Go.Proofs.YtcbpgbfbffnogaaGreat
/- THE CELL 'sum', in the pinned program and in every row, IS THE sha256 OF THE DUMP (.gsa) THAT YtcbpgbfbffnogaaGreatProg.lean LOADS. Nothing in Lean hashes anything: it is a label: what it is worth is what the hold of that sum in a sandbox is worth. -/
noncomputable def Tryz.pinned : Pinned := { name := "ytcbpgbfbffnogaagreat", sum := "cbef3a43b7faf74b9e91547e0d1bb3e4d978a401ad93b2c992ddaa83bc23d2c0", checked := Tryz.checked }
namespace Rows
def none {H : Type} : Left H := { results := [], args := [] }

/-- 'turnbucklelaw10.ConnPrefix': WHATEVER THE INPUT: true; the input reads as it did. -/
def connPrefixSpec : ChangeSpec := { name := "connPrefix", fn := fun _ => fun
  | [d1, d2] => { results := [.lit (.bool true)], args := [d1, d2] }
  | _ => none }
def connPrefixRow : OpenClaim := { program := "ytcbpgbfbffnogaagreat", sum := "cbef3a43b7faf74b9e91547e0d1bb3e4d978a401ad93b2c992ddaa83bc23d2c0", func := "turnbuckle/turnbucklelaw10.ConnPrefix", spec := "connPrefix", inPlace := ["slices.overlaps[turnbuckle/api.Span]"], unfollowed := true, recurses := true, apart := false }
def ConnPrefixSaid : Prop := connPrefixRow.holds Tryz.pinned (OpenSpec.ofChange connPrefixSpec)

/-- ITS FALSE NEIGHBOUR: 'it returns false'. Refute it at one input. -/
def connPrefixWrong : ChangeSpec := { name := "connPrefix", fn := fun _ => fun
  | [d1, d2] => { results := [.lit (.bool false)], args := [d1, d2] }
  | _ => none }
def ConnPrefixWrongFalsely : Prop := connPrefixRow.holds Tryz.pinned (OpenSpec.ofChange connPrefixWrong)

/-- 'turnbucklelaw10.ConnTurned': WHATEVER THE INPUT: true; the input reads as it did. -/
def connTurnedSpec : ChangeSpec := { name := "connTurned", fn := fun _ => fun
  | [d1, d2] => { results := [.lit (.bool true)], args := [d1, d2] }
  | _ => none }
def connTurnedRow : OpenClaim := { program := "ytcbpgbfbffnogaagreat", sum := "cbef3a43b7faf74b9e91547e0d1bb3e4d978a401ad93b2c992ddaa83bc23d2c0", func := "turnbuckle/turnbucklelaw10.ConnTurned", spec := "connTurned", inPlace := ["slices.overlaps[turnbuckle/api.Span]"], unfollowed := true, recurses := true, apart := false }
def ConnTurnedSaid : Prop := connTurnedRow.holds Tryz.pinned (OpenSpec.ofChange connTurnedSpec)

/-- ITS FALSE NEIGHBOUR: 'it returns false'. Refute it at one input. -/
def connTurnedWrong : ChangeSpec := { name := "connTurned", fn := fun _ => fun
  | [d1, d2] => { results := [.lit (.bool false)], args := [d1, d2] }
  | _ => none }
def ConnTurnedWrongFalsely : Prop := connTurnedRow.holds Tryz.pinned (OpenSpec.ofChange connTurnedWrong)

/-- 'turnbucklelaw10.ConnBounds': WHATEVER THE INPUT: true; the input reads as it did. -/
def connBoundsSpec : ChangeSpec := { name := "connBounds", fn := fun _ => fun
  | [d1, d2] => { results := [.lit (.bool true)], args := [d1, d2] }
  | _ => none }
def connBoundsRow : OpenClaim := { program := "ytcbpgbfbffnogaagreat", sum := "cbef3a43b7faf74b9e91547e0d1bb3e4d978a401ad93b2c992ddaa83bc23d2c0", func := "turnbuckle/turnbucklelaw10.ConnBounds", spec := "connBounds", inPlace := ["slices.overlaps[turnbuckle/api.Span]"], unfollowed := true, recurses := true, apart := false }
def ConnBoundsSaid : Prop := connBoundsRow.holds Tryz.pinned (OpenSpec.ofChange connBoundsSpec)

/-- ITS FALSE NEIGHBOUR: 'it returns false'. Refute it at one input. -/
def connBoundsWrong : ChangeSpec := { name := "connBounds", fn := fun _ => fun
  | [d1, d2] => { results := [.lit (.bool false)], args := [d1, d2] }
  | _ => none }
def ConnBoundsWrongFalsely : Prop := connBoundsRow.holds Tryz.pinned (OpenSpec.ofChange connBoundsWrong)

/-- 'turnbucklelaw10.ConnNobody': WHATEVER THE INPUT: true; the input reads as it did. -/
def connNobodySpec : ChangeSpec := { name := "connNobody", fn := fun _ => fun
  | [d] => { results := [.lit (.bool true)], args := [d] }
  | _ => none }
def connNobodyRow : OpenClaim := { program := "ytcbpgbfbffnogaagreat", sum := "cbef3a43b7faf74b9e91547e0d1bb3e4d978a401ad93b2c992ddaa83bc23d2c0", func := "turnbuckle/turnbucklelaw10.ConnNobody", spec := "connNobody", inPlace := ["slices.overlaps[turnbuckle/api.Span]"], unfollowed := true, recurses := true, apart := false }
def ConnNobodySaid : Prop := connNobodyRow.holds Tryz.pinned (OpenSpec.ofChange connNobodySpec)

/-- ITS FALSE NEIGHBOUR: 'it returns false'. Refute it at one input. -/
def connNobodyWrong : ChangeSpec := { name := "connNobody", fn := fun _ => fun
  | [d] => { results := [.lit (.bool false)], args := [d] }
  | _ => none }
def ConnNobodyWrongFalsely : Prop := connNobodyRow.holds Tryz.pinned (OpenSpec.ofChange connNobodyWrong)

/- THE SECOND FORM. 'bulk': how many values and letters a reading holds, each counted each time it is reached (what is shared counts as often as it is met; a slice's spare places count too). A statement '..UptoSaid' is the law's where the arguments, and the package variables that the reading takes, are together of bulk at most 1048576: NARROWER than '..Said'. Prove '..Said' where nothing that the law and all that it calls make is longer than what came in: it says more and counts as full. Else prove '..UptoSaid'. A law counts once. -/
mutual
def uptoBulk {H : Type} : DataW H → Nat
  | .lit (.string bytes) => bytes.length + 1
  | .lit _ => 1
  | .nil => 1
  | .ptr d => uptoBulk d + 1
  | .slice elems spare => uptoBulkAll elems + uptoBulkAll spare + 1
  | .agg parts => uptoBulkAll parts + 1
  | .iface _ d => uptoBulk d + 1
  | .map entries => uptoBulkEntries entries + 1
  | .held _ => 1
def uptoBulkAll {H : Type} : List (DataW H) → Nat
  | [] => 0
  | d :: r => uptoBulk d + uptoBulkAll r
def uptoBulkEntries {H : Type} : List (Lit × DataW H) → Nat
  | [] => 0
  | x :: r => uptoBulkEntry x + uptoBulkEntries r
def uptoBulkEntry {H : Type} : Lit × DataW H → Nat
  | (.string bytes, d) => bytes.length + uptoBulk d + 1
  | (_, d) => uptoBulk d + 1
 end
def uptoSmall : (H : Type) → List (DataW H) → Bool := fun _ ds => decide (uptoBulkAll ds ≤ 1048576)
def OpenSpec.upto (s : _root_.Go.ChangeSpec) : _root_.Go.OpenSpec := { _root_.Go.OpenSpec.ofChange s with cond := some uptoSmall }

/-- 'turnbucklelaw10.ConnPrefix', WHERE WHAT IT READS IS OF BULK AT MOST 1048576: true; the input reads as it did. -/
def connPrefixUptoRow : OpenClaim := { program := "ytcbpgbfbffnogaagreat", sum := "cbef3a43b7faf74b9e91547e0d1bb3e4d978a401ad93b2c992ddaa83bc23d2c0", func := "turnbuckle/turnbucklelaw10.ConnPrefix", spec := "connPrefix", inPlace := ["slices.overlaps[turnbuckle/api.Span]"], unfollowed := true, recurses := true, apart := false, narrowed := true }
def ConnPrefixUptoSaid : Prop := connPrefixUptoRow.holds Tryz.pinned (OpenSpec.upto connPrefixSpec)

/-- 'turnbucklelaw10.ConnTurned', WHERE WHAT IT READS IS OF BULK AT MOST 1048576: true; the input reads as it did. -/
def connTurnedUptoRow : OpenClaim := { program := "ytcbpgbfbffnogaagreat", sum := "cbef3a43b7faf74b9e91547e0d1bb3e4d978a401ad93b2c992ddaa83bc23d2c0", func := "turnbuckle/turnbucklelaw10.ConnTurned", spec := "connTurned", inPlace := ["slices.overlaps[turnbuckle/api.Span]"], unfollowed := true, recurses := true, apart := false, narrowed := true }
def ConnTurnedUptoSaid : Prop := connTurnedUptoRow.holds Tryz.pinned (OpenSpec.upto connTurnedSpec)

/-- 'turnbucklelaw10.ConnBounds', WHERE WHAT IT READS IS OF BULK AT MOST 1048576: true; the input reads as it did. -/
def connBoundsUptoRow : OpenClaim := { program := "ytcbpgbfbffnogaagreat", sum := "cbef3a43b7faf74b9e91547e0d1bb3e4d978a401ad93b2c992ddaa83bc23d2c0", func := "turnbuckle/turnbucklelaw10.ConnBounds", spec := "connBounds", inPlace := ["slices.overlaps[turnbuckle/api.Span]"], unfollowed := true, recurses := true, apart := false, narrowed := true }
def ConnBoundsUptoSaid : Prop := connBoundsUptoRow.holds Tryz.pinned (OpenSpec.upto connBoundsSpec)

/-- 'turnbucklelaw10.ConnNobody', WHERE WHAT IT READS IS OF BULK AT MOST 1048576: true; the input reads as it did. -/
def connNobodyUptoRow : OpenClaim := { program := "ytcbpgbfbffnogaagreat", sum := "cbef3a43b7faf74b9e91547e0d1bb3e4d978a401ad93b2c992ddaa83bc23d2c0", func := "turnbuckle/turnbucklelaw10.ConnNobody", spec := "connNobody", inPlace := ["slices.overlaps[turnbuckle/api.Span]"], unfollowed := true, recurses := true, apart := false, narrowed := true }
def ConnNobodyUptoSaid : Prop := connNobodyUptoRow.holds Tryz.pinned (OpenSpec.upto connNobodySpec)

end Rows
end Go.Proofs.YtcbpgbfbffnogaaGreat
