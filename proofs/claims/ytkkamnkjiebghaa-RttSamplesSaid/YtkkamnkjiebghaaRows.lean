/-
  No cell of these rows narrows 'for every input' (looked for: loops, veiled, ifaces, maps, wideKeys, modest, calm, conditions, laid).
  DERIVED. THE GIVEN ROWS OF THIS SEAT. 6 by the template 'for every input the law returns true; each argument reads behind the call as it read before'; 0 by the template 'total and deterministic' (their statements: YtkkamnkjiebghaaTotals.lean).
  GIVEN WITH THE SEED: the statements are not yours to turn. If you find one false, say at which input.
  Laid BY PROGRAM, IN A SANDBOX (cutbox-rows.mjs): the forced cells as the released guide's own fill.sh prints them over the translation 7e2d6f5d4475e6dc… (all of the seat's roots in one cut). By AI agents, Wed Nov 11 2026. No macro, syntax, notation, axiom, sorry.
-/
import Derived.Test.YtkkamnkjiebghaaChecked
import GoSem.Claim
import GoSem.ClaimJoined
import GoSem.ClaimMapViews
import Derived.JoinedTies
import Derived.KernelRfl
namespace Go.Proofs.Ytkkamnkjiebghaa
/- THE CELL 'sum', in the pinned program and in every row, IS THE sha256 OF THE DUMP (.gsa) THAT YtkkamnkjiebghaaProg.lean LOADS. Nothing in Lean hashes anything: it is a label: what it is worth is what the hold of that sum in a sandbox is worth. -/
noncomputable def Try.pinned : Pinned := { name := "ytkkamnkjiebghaa", sum := "7e2d6f5d4475e6dc014c1d7ff2f6187d00269732234ae9da5f292bd5db84d498", checked := Try.checked }
namespace Rows
def none {H : Type} : Left H := { results := [], args := [] }

/-- 'turnbucklelaw06.RttSamples': WHATEVER THE INPUT: true; the input reads as it did. -/
def rttSamplesSpec : ChangeSpec := { name := "rttSamples", fn := fun _ => fun
  | [d1, d2, d3] => { results := [.lit (.bool true)], args := [d1, d2, d3] }
  | _ => none }
def rttSamplesRow : OpenClaim := { program := "ytkkamnkjiebghaa", sum := "7e2d6f5d4475e6dc014c1d7ff2f6187d00269732234ae9da5f292bd5db84d498", func := "turnbuckle/turnbucklelaw06.RttSamples", spec := "rttSamples", apart := false }
def RttSamplesSaid : Prop := rttSamplesRow.holds Try.pinned (OpenSpec.ofChange rttSamplesSpec)

/-- ITS FALSE NEIGHBOUR: 'it returns false'. Refute it at one input. -/
def rttSamplesWrong : ChangeSpec := { name := "rttSamples", fn := fun _ => fun
  | [d1, d2, d3] => { results := [.lit (.bool false)], args := [d1, d2, d3] }
  | _ => none }
def RttSamplesWrongFalsely : Prop := rttSamplesRow.holds Try.pinned (OpenSpec.ofChange rttSamplesWrong)

/-- 'turnbucklelaw06.RttLeast': WHATEVER THE INPUT: true; the input reads as it did. -/
def rttLeastSpec : ChangeSpec := { name := "rttLeast", fn := fun _ => fun
  | [d1, d2] => { results := [.lit (.bool true)], args := [d1, d2] }
  | _ => none }
def rttLeastRow : OpenClaim := { program := "ytkkamnkjiebghaa", sum := "7e2d6f5d4475e6dc014c1d7ff2f6187d00269732234ae9da5f292bd5db84d498", func := "turnbuckle/turnbucklelaw06.RttLeast", spec := "rttLeast", apart := false }
def RttLeastSaid : Prop := rttLeastRow.holds Try.pinned (OpenSpec.ofChange rttLeastSpec)

/-- ITS FALSE NEIGHBOUR: 'it returns false'. Refute it at one input. -/
def rttLeastWrong : ChangeSpec := { name := "rttLeast", fn := fun _ => fun
  | [d1, d2] => { results := [.lit (.bool false)], args := [d1, d2] }
  | _ => none }
def RttLeastWrongFalsely : Prop := rttLeastRow.holds Try.pinned (OpenSpec.ofChange rttLeastWrong)

/-- 'turnbucklelaw06.RttSteady': WHATEVER THE INPUT: true; the input reads as it did. -/
def rttSteadySpec : ChangeSpec := { name := "rttSteady", fn := fun _ => fun
  | [d1, d2] => { results := [.lit (.bool true)], args := [d1, d2] }
  | _ => none }
def rttSteadyRow : OpenClaim := { program := "ytkkamnkjiebghaa", sum := "7e2d6f5d4475e6dc014c1d7ff2f6187d00269732234ae9da5f292bd5db84d498", func := "turnbuckle/turnbucklelaw06.RttSteady", spec := "rttSteady", apart := false }
def RttSteadySaid : Prop := rttSteadyRow.holds Try.pinned (OpenSpec.ofChange rttSteadySpec)

/-- ITS FALSE NEIGHBOUR: 'it returns false'. Refute it at one input. -/
def rttSteadyWrong : ChangeSpec := { name := "rttSteady", fn := fun _ => fun
  | [d1, d2] => { results := [.lit (.bool false)], args := [d1, d2] }
  | _ => none }
def RttSteadyWrongFalsely : Prop := rttSteadyRow.holds Try.pinned (OpenSpec.ofChange rttSteadyWrong)

/-- 'turnbucklelaw06.RttBetween': WHATEVER THE INPUT: true; the input reads as it did. -/
def rttBetweenSpec : ChangeSpec := { name := "rttBetween", fn := fun _ => fun
  | [d1, d2] => { results := [.lit (.bool true)], args := [d1, d2] }
  | _ => none }
def rttBetweenRow : OpenClaim := { program := "ytkkamnkjiebghaa", sum := "7e2d6f5d4475e6dc014c1d7ff2f6187d00269732234ae9da5f292bd5db84d498", func := "turnbuckle/turnbucklelaw06.RttBetween", spec := "rttBetween", apart := false }
def RttBetweenSaid : Prop := rttBetweenRow.holds Try.pinned (OpenSpec.ofChange rttBetweenSpec)

/-- ITS FALSE NEIGHBOUR: 'it returns false'. Refute it at one input. -/
def rttBetweenWrong : ChangeSpec := { name := "rttBetween", fn := fun _ => fun
  | [d1, d2] => { results := [.lit (.bool false)], args := [d1, d2] }
  | _ => none }
def RttBetweenWrongFalsely : Prop := rttBetweenRow.holds Try.pinned (OpenSpec.ofChange rttBetweenWrong)

/-- 'turnbucklelaw06.RttDoubles': WHATEVER THE INPUT: true; the input reads as it did. -/
def rttDoublesSpec : ChangeSpec := { name := "rttDoubles", fn := fun _ => fun
  | [d1, d2] => { results := [.lit (.bool true)], args := [d1, d2] }
  | _ => none }
def rttDoublesRow : OpenClaim := { program := "ytkkamnkjiebghaa", sum := "7e2d6f5d4475e6dc014c1d7ff2f6187d00269732234ae9da5f292bd5db84d498", func := "turnbuckle/turnbucklelaw06.RttDoubles", spec := "rttDoubles", apart := false }
def RttDoublesSaid : Prop := rttDoublesRow.holds Try.pinned (OpenSpec.ofChange rttDoublesSpec)

/-- ITS FALSE NEIGHBOUR: 'it returns false'. Refute it at one input. -/
def rttDoublesWrong : ChangeSpec := { name := "rttDoubles", fn := fun _ => fun
  | [d1, d2] => { results := [.lit (.bool false)], args := [d1, d2] }
  | _ => none }
def RttDoublesWrongFalsely : Prop := rttDoublesRow.holds Try.pinned (OpenSpec.ofChange rttDoublesWrong)

/-- 'turnbucklelaw06.RttWaits': WHATEVER THE INPUT: true; the input reads as it did. -/
def rttWaitsSpec : ChangeSpec := { name := "rttWaits", fn := fun _ => fun
  | [d1, d2] => { results := [.lit (.bool true)], args := [d1, d2] }
  | _ => none }
def rttWaitsRow : OpenClaim := { program := "ytkkamnkjiebghaa", sum := "7e2d6f5d4475e6dc014c1d7ff2f6187d00269732234ae9da5f292bd5db84d498", func := "turnbuckle/turnbucklelaw06.RttWaits", spec := "rttWaits", apart := false }
def RttWaitsSaid : Prop := rttWaitsRow.holds Try.pinned (OpenSpec.ofChange rttWaitsSpec)

/-- ITS FALSE NEIGHBOUR: 'it returns false'. Refute it at one input. -/
def rttWaitsWrong : ChangeSpec := { name := "rttWaits", fn := fun _ => fun
  | [d1, d2] => { results := [.lit (.bool false)], args := [d1, d2] }
  | _ => none }
def RttWaitsWrongFalsely : Prop := rttWaitsRow.holds Try.pinned (OpenSpec.ofChange rttWaitsWrong)

/- THE SECOND FORM. 'bulk': how many values and letters a reading holds, each counted each time it is reached (what is shared counts as often as it is met; a slice's spare places count too). A statement '..UptoSaid' is the law's where the arguments, and the package variables that the reading takes, are together of bulk at most 1048576: NARROWER than '..Said'. Prove '..Said' where nothing that the law and all that it calls make is longer than what came in: it says more and counts as full. Else prove '..UptoSaid'. A law counts once. -/
mutual
def uptoBulk {H : Type} : DataW H → Nat
  | .lit (.string bytes) => bytes.length + 1
  | .lit _ => 1
  | .nil => 1
  | .ptr d => uptoBulk d + 1
  | .slice elems spare => uptoBulkAll elems + uptoBulkAll spare + 1
  | .agg parts => uptoBulkAll parts + 1
  | .iface _ d => uptoBulk d + 1
  | .map entries => uptoBulkEntries entries + 1
  | .held _ => 1
def uptoBulkAll {H : Type} : List (DataW H) → Nat
  | [] => 0
  | d :: r => uptoBulk d + uptoBulkAll r
def uptoBulkEntries {H : Type} : List (Lit × DataW H) → Nat
  | [] => 0
  | x :: r => uptoBulkEntry x + uptoBulkEntries r
def uptoBulkEntry {H : Type} : Lit × DataW H → Nat
  | (.string bytes, d) => bytes.length + uptoBulk d + 1
  | (_, d) => uptoBulk d + 1
 end
def uptoSmall : (H : Type) → List (DataW H) → Bool := fun _ ds => decide (uptoBulkAll ds ≤ 1048576)
def OpenSpec.upto (s : _root_.Go.ChangeSpec) : _root_.Go.OpenSpec := { _root_.Go.OpenSpec.ofChange s with cond := some uptoSmall }

/-- 'turnbucklelaw06.RttSamples', WHERE WHAT IT READS IS OF BULK AT MOST 1048576: true; the input reads as it did. -/
def rttSamplesUptoRow : OpenClaim := { program := "ytkkamnkjiebghaa", sum := "7e2d6f5d4475e6dc014c1d7ff2f6187d00269732234ae9da5f292bd5db84d498", func := "turnbuckle/turnbucklelaw06.RttSamples", spec := "rttSamples", apart := false, narrowed := true }
def RttSamplesUptoSaid : Prop := rttSamplesUptoRow.holds Try.pinned (OpenSpec.upto rttSamplesSpec)

/-- 'turnbucklelaw06.RttLeast', WHERE WHAT IT READS IS OF BULK AT MOST 1048576: true; the input reads as it did. -/
def rttLeastUptoRow : OpenClaim := { program := "ytkkamnkjiebghaa", sum := "7e2d6f5d4475e6dc014c1d7ff2f6187d00269732234ae9da5f292bd5db84d498", func := "turnbuckle/turnbucklelaw06.RttLeast", spec := "rttLeast", apart := false, narrowed := true }
def RttLeastUptoSaid : Prop := rttLeastUptoRow.holds Try.pinned (OpenSpec.upto rttLeastSpec)

/-- 'turnbucklelaw06.RttSteady', WHERE WHAT IT READS IS OF BULK AT MOST 1048576: true; the input reads as it did. -/
def rttSteadyUptoRow : OpenClaim := { program := "ytkkamnkjiebghaa", sum := "7e2d6f5d4475e6dc014c1d7ff2f6187d00269732234ae9da5f292bd5db84d498", func := "turnbuckle/turnbucklelaw06.RttSteady", spec := "rttSteady", apart := false, narrowed := true }
def RttSteadyUptoSaid : Prop := rttSteadyUptoRow.holds Try.pinned (OpenSpec.upto rttSteadySpec)

/-- 'turnbucklelaw06.RttBetween', WHERE WHAT IT READS IS OF BULK AT MOST 1048576: true; the input reads as it did. -/
def rttBetweenUptoRow : OpenClaim := { program := "ytkkamnkjiebghaa", sum := "7e2d6f5d4475e6dc014c1d7ff2f6187d00269732234ae9da5f292bd5db84d498", func := "turnbuckle/turnbucklelaw06.RttBetween", spec := "rttBetween", apart := false, narrowed := true }
def RttBetweenUptoSaid : Prop := rttBetweenUptoRow.holds Try.pinned (OpenSpec.upto rttBetweenSpec)

/-- 'turnbucklelaw06.RttDoubles', WHERE WHAT IT READS IS OF BULK AT MOST 1048576: true; the input reads as it did. -/
def rttDoublesUptoRow : OpenClaim := { program := "ytkkamnkjiebghaa", sum := "7e2d6f5d4475e6dc014c1d7ff2f6187d00269732234ae9da5f292bd5db84d498", func := "turnbuckle/turnbucklelaw06.RttDoubles", spec := "rttDoubles", apart := false, narrowed := true }
def RttDoublesUptoSaid : Prop := rttDoublesUptoRow.holds Try.pinned (OpenSpec.upto rttDoublesSpec)

/-- 'turnbucklelaw06.RttWaits', WHERE WHAT IT READS IS OF BULK AT MOST 1048576: true; the input reads as it did. -/
def rttWaitsUptoRow : OpenClaim := { program := "ytkkamnkjiebghaa", sum := "7e2d6f5d4475e6dc014c1d7ff2f6187d00269732234ae9da5f292bd5db84d498", func := "turnbuckle/turnbucklelaw06.RttWaits", spec := "rttWaits", apart := false, narrowed := true }
def RttWaitsUptoSaid : Prop := rttWaitsUptoRow.holds Try.pinned (OpenSpec.upto rttWaitsSpec)

end Rows
end Go.Proofs.Ytkkamnkjiebghaa
