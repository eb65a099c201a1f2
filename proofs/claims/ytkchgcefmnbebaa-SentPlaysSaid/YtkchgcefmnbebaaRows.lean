/-
  No cell of these rows narrows 'for every input' (looked for: loops, veiled, ifaces, maps, wideKeys, modest, calm, conditions, laid).
  DERIVED. THE GIVEN ROWS OF THIS SEAT. 5 by the template 'for every input the law returns true; each argument reads behind the call as it read before'; 0 by the template 'total and deterministic' (their statements: YtkchgcefmnbebaaTotals.lean).
  GIVEN WITH THE SEED: the statements are not yours to turn. If you find one false, say at which input.
  Laid BY PROGRAM, IN A SANDBOX (cutbox-rows.mjs): the forced cells as the released guide's own fill.sh prints them over the translation 301a8e19d3c973b5… (all of the seat's roots in one cut). By AI agents, Wed Nov 11 2026. No macro, syntax, notation, axiom, sorry.
-/
import Derived.Test.YtkchgcefmnbebaaChecked
import GoSem.Claim
import GoSem.ClaimJoined
import GoSem.ClaimMapViews
import Derived.JoinedTies
import Derived.KernelRfl
namespace Go.Proofs.Ytkchgcefmnbebaa
/- THE CELL 'sum', in the pinned program and in every row, IS THE sha256 OF THE DUMP (.gsa) THAT YtkchgcefmnbebaaProg.lean LOADS. Nothing in Lean hashes anything: it is a label: what it is worth is what the hold of that sum in a sandbox is worth. -/
noncomputable def Try.pinned : Pinned := { name := "ytkchgcefmnbebaa", sum := "301a8e19d3c973b5faf2b32da86d22a7d2de513ab3cc278144b7364db415e6d9", checked := Try.checked }
namespace Rows
def none {H : Type} : Left H := { results := [], args := [] }

/-- 'turnbucklelaw08.SentPlays': WHATEVER THE INPUT: true; the input reads as it did. -/
def sentPlaysSpec : ChangeSpec := { name := "sentPlays", fn := fun _ => fun
  | [d] => { results := [.lit (.bool true)], args := [d] }
  | _ => none }
def sentPlaysRow : OpenClaim := { program := "ytkchgcefmnbebaa", sum := "301a8e19d3c973b5faf2b32da86d22a7d2de513ab3cc278144b7364db415e6d9", func := "turnbuckle/turnbucklelaw08.SentPlays", spec := "sentPlays", unfollowed := true, recurses := true, apart := false }
def SentPlaysSaid : Prop := sentPlaysRow.holds Try.pinned (OpenSpec.ofChange sentPlaysSpec)

/-- ITS FALSE NEIGHBOUR: 'it returns false'. Refute it at one input. -/
def sentPlaysWrong : ChangeSpec := { name := "sentPlays", fn := fun _ => fun
  | [d] => { results := [.lit (.bool false)], args := [d] }
  | _ => none }
def SentPlaysWrongFalsely : Prop := sentPlaysRow.holds Try.pinned (OpenSpec.ofChange sentPlaysWrong)

/-- 'turnbucklelaw08.SentOnce': WHATEVER THE INPUT: true; the input reads as it did. -/
def sentOnceSpec : ChangeSpec := { name := "sentOnce", fn := fun _ => fun
  | [d] => { results := [.lit (.bool true)], args := [d] }
  | _ => none }
def sentOnceRow : OpenClaim := { program := "ytkchgcefmnbebaa", sum := "301a8e19d3c973b5faf2b32da86d22a7d2de513ab3cc278144b7364db415e6d9", func := "turnbuckle/turnbucklelaw08.SentOnce", spec := "sentOnce", unfollowed := true, recurses := true, apart := false }
def SentOnceSaid : Prop := sentOnceRow.holds Try.pinned (OpenSpec.ofChange sentOnceSpec)

/-- ITS FALSE NEIGHBOUR: 'it returns false'. Refute it at one input. -/
def sentOnceWrong : ChangeSpec := { name := "sentOnce", fn := fun _ => fun
  | [d] => { results := [.lit (.bool false)], args := [d] }
  | _ => none }
def SentOnceWrongFalsely : Prop := sentOnceRow.holds Try.pinned (OpenSpec.ofChange sentOnceWrong)

/-- 'turnbucklelaw08.SentBelow': WHATEVER THE INPUT: true; the input reads as it did. -/
def sentBelowSpec : ChangeSpec := { name := "sentBelow", fn := fun _ => fun
  | [d] => { results := [.lit (.bool true)], args := [d] }
  | _ => none }
def sentBelowRow : OpenClaim := { program := "ytkchgcefmnbebaa", sum := "301a8e19d3c973b5faf2b32da86d22a7d2de513ab3cc278144b7364db415e6d9", func := "turnbuckle/turnbucklelaw08.SentBelow", spec := "sentBelow", unfollowed := true, recurses := true, apart := false }
def SentBelowSaid : Prop := sentBelowRow.holds Try.pinned (OpenSpec.ofChange sentBelowSpec)

/-- ITS FALSE NEIGHBOUR: 'it returns false'. Refute it at one input. -/
def sentBelowWrong : ChangeSpec := { name := "sentBelow", fn := fun _ => fun
  | [d] => { results := [.lit (.bool false)], args := [d] }
  | _ => none }
def SentBelowWrongFalsely : Prop := sentBelowRow.holds Try.pinned (OpenSpec.ofChange sentBelowWrong)

/-- 'turnbucklelaw08.SentDue': WHATEVER THE INPUT: true; the input reads as it did. -/
def sentDueSpec : ChangeSpec := { name := "sentDue", fn := fun _ => fun
  | [d1, d2] => { results := [.lit (.bool true)], args := [d1, d2] }
  | _ => none }
def sentDueRow : OpenClaim := { program := "ytkchgcefmnbebaa", sum := "301a8e19d3c973b5faf2b32da86d22a7d2de513ab3cc278144b7364db415e6d9", func := "turnbuckle/turnbucklelaw08.SentDue", spec := "sentDue", unfollowed := true, recurses := true, apart := false }
def SentDueSaid : Prop := sentDueRow.holds Try.pinned (OpenSpec.ofChange sentDueSpec)

/-- ITS FALSE NEIGHBOUR: 'it returns false'. Refute it at one input. -/
def sentDueWrong : ChangeSpec := { name := "sentDue", fn := fun _ => fun
  | [d1, d2] => { results := [.lit (.bool false)], args := [d1, d2] }
  | _ => none }
def SentDueWrongFalsely : Prop := sentDueRow.holds Try.pinned (OpenSpec.ofChange sentDueWrong)

/-- 'turnbucklelaw08.SentNobody': WHATEVER THE INPUT: true; the input reads as it did. -/
def sentNobodySpec : ChangeSpec := { name := "sentNobody", fn := fun _ => fun
  | [d] => { results := [.lit (.bool true)], args := [d] }
  | _ => none }
def sentNobodyRow : OpenClaim := { program := "ytkchgcefmnbebaa", sum := "301a8e19d3c973b5faf2b32da86d22a7d2de513ab3cc278144b7364db415e6d9", func := "turnbuckle/turnbucklelaw08.SentNobody", spec := "sentNobody", unfollowed := true, recurses := true, apart := false }
def SentNobodySaid : Prop := sentNobodyRow.holds Try.pinned (OpenSpec.ofChange sentNobodySpec)

/-- ITS FALSE NEIGHBOUR: 'it returns false'. Refute it at one input. -/
def sentNobodyWrong : ChangeSpec := { name := "sentNobody", fn := fun _ => fun
  | [d] => { results := [.lit (.bool false)], args := [d] }
  | _ => none }
def SentNobodyWrongFalsely : Prop := sentNobodyRow.holds Try.pinned (OpenSpec.ofChange sentNobodyWrong)

/- THE SECOND FORM. 'bulk': how many values and letters a reading holds, each counted each time it is reached (what is shared counts as often as it is met; a slice's spare places count too). A statement '..UptoSaid' is the law's where the arguments, and the package variables that the reading takes, are together of bulk at most 1048576: NARROWER than '..Said'. Prove '..Said' where nothing that the law and all that it calls make is longer than what came in: it says more and counts as full. Else prove '..UptoSaid'. A law counts once. -/
mutual
def uptoBulk {H : Type} : DataW H → Nat
  | .lit (.string bytes) => bytes.length + 1
  | .lit _ => 1
  | .nil => 1
  | .ptr d => uptoBulk d + 1
  | .slice elems spare => uptoBulkAll elems + uptoBulkAll spare + 1
  | .agg parts => uptoBulkAll parts + 1
  | .iface _ d => uptoBulk d + 1
  | .map entries => uptoBulkEntries entries + 1
  | .held _ => 1
def uptoBulkAll {H : Type} : List (DataW H) → Nat
  | [] => 0
  | d :: r => uptoBulk d + uptoBulkAll r
def uptoBulkEntries {H : Type} : List (Lit × DataW H) → Nat
  | [] => 0
  | x :: r => uptoBulkEntry x + uptoBulkEntries r
def uptoBulkEntry {H : Type} : Lit × DataW H → Nat
  | (.string bytes, d) => bytes.length + uptoBulk d + 1
  | (_, d) => uptoBulk d + 1
 end
def uptoSmall : (H : Type) → List (DataW H) → Bool := fun _ ds => decide (uptoBulkAll ds ≤ 1048576)
def OpenSpec.upto (s : _root_.Go.ChangeSpec) : _root_.Go.OpenSpec := { _root_.Go.OpenSpec.ofChange s with cond := some uptoSmall }

/-- 'turnbucklelaw08.SentPlays', WHERE WHAT IT READS IS OF BULK AT MOST 1048576: true; the input reads as it did. -/
def sentPlaysUptoRow : OpenClaim := { program := "ytkchgcefmnbebaa", sum := "301a8e19d3c973b5faf2b32da86d22a7d2de513ab3cc278144b7364db415e6d9", func := "turnbuckle/turnbucklelaw08.SentPlays", spec := "sentPlays", unfollowed := true, recurses := true, apart := false, narrowed := true }
def SentPlaysUptoSaid : Prop := sentPlaysUptoRow.holds Try.pinned (OpenSpec.upto sentPlaysSpec)

/-- 'turnbucklelaw08.SentOnce', WHERE WHAT IT READS IS OF BULK AT MOST 1048576: true; the input reads as it did. -/
def sentOnceUptoRow : OpenClaim := { program := "ytkchgcefmnbebaa", sum := "301a8e19d3c973b5faf2b32da86d22a7d2de513ab3cc278144b7364db415e6d9", func := "turnbuckle/turnbucklelaw08.SentOnce", spec := "sentOnce", unfollowed := true, recurses := true, apart := false, narrowed := true }
def SentOnceUptoSaid : Prop := sentOnceUptoRow.holds Try.pinned (OpenSpec.upto sentOnceSpec)

/-- 'turnbucklelaw08.SentBelow', WHERE WHAT IT READS IS OF BULK AT MOST 1048576: true; the input reads as it did. -/
def sentBelowUptoRow : OpenClaim := { program := "ytkchgcefmnbebaa", sum := "301a8e19d3c973b5faf2b32da86d22a7d2de513ab3cc278144b7364db415e6d9", func := "turnbuckle/turnbucklelaw08.SentBelow", spec := "sentBelow", unfollowed := true, recurses := true, apart := false, narrowed := true }
def SentBelowUptoSaid : Prop := sentBelowUptoRow.holds Try.pinned (OpenSpec.upto sentBelowSpec)

/-- 'turnbucklelaw08.SentDue', WHERE WHAT IT READS IS OF BULK AT MOST 1048576: true; the input reads as it did. -/
def sentDueUptoRow : OpenClaim := { program := "ytkchgcefmnbebaa", sum := "301a8e19d3c973b5faf2b32da86d22a7d2de513ab3cc278144b7364db415e6d9", func := "turnbuckle/turnbucklelaw08.SentDue", spec := "sentDue", unfollowed := true, recurses := true, apart := false, narrowed := true }
def SentDueUptoSaid : Prop := sentDueUptoRow.holds Try.pinned (OpenSpec.upto sentDueSpec)

/-- 'turnbucklelaw08.SentNobody', WHERE WHAT IT READS IS OF BULK AT MOST 1048576: true; the input reads as it did. -/
def sentNobodyUptoRow : OpenClaim := { program := "ytkchgcefmnbebaa", sum := "301a8e19d3c973b5faf2b32da86d22a7d2de513ab3cc278144b7364db415e6d9", func := "turnbuckle/turnbucklelaw08.SentNobody", spec := "sentNobody", unfollowed := true, recurses := true, apart := false, narrowed := true }
def SentNobodyUptoSaid : Prop := sentNobodyUptoRow.holds Try.pinned (OpenSpec.upto sentNobodySpec)

end Rows
end Go.Proofs.Ytkchgcefmnbebaa
