/-
  No cell of these rows narrows 'for every input' (looked for: loops, veiled, ifaces, maps, wideKeys, modest, calm, conditions, laid).
  DERIVED. THE GIVEN ROWS OF THIS SEAT. 7 by the template 'for every input the law returns true; each argument reads behind the call as it read before'; 0 by the template 'total and deterministic' (their statements: YtbfpoannmkblhaaTotals.lean).
  GIVEN WITH THE SEED: the statements are not yours to turn. If you find one false, say at which input.
  Laid BY PROGRAM, IN A SANDBOX (cutbox-rows.mjs): the forced cells as the released guide's own fill.sh prints them over the translation f497ac70915071aa… (all of the seat's roots in one cut). By AI agents, Wed Nov 11 2026. No macro, syntax, notation, axiom, sorry.
-/
import Derived.Test.YtbfpoannmkblhaaChecked
import GoSem.Claim
import GoSem.ClaimJoined
import GoSem.ClaimMapViews
import Derived.JoinedTies
import Derived.KernelRfl
namespace Go.Proofs.Ytbfpoannmkblhaa
/- THE CELL 'sum', in the pinned program and in every row, IS THE sha256 OF THE DUMP (.gsa) THAT YtbfpoannmkblhaaProg.lean LOADS. Nothing in Lean hashes anything: it is a label: what it is worth is what the hold of that sum in a sandbox is worth. -/
noncomputable def Try.pinned : Pinned := { name := "ytbfpoannmkblhaa", sum := "f497ac70915071aa873770057de8dd733591571972bf021e7fba1c04b98b116a", checked := Try.checked }
namespace Rows
def none {H : Type} : Left H := { results := [], args := [] }

/-- 'turnbucklelaw01.VintPuts': WHATEVER THE INPUT: true; the input reads as it did. -/
def vintPutsSpec : ChangeSpec := { name := "vintPuts", fn := fun _ => fun
  | [d1, d2, d3] => { results := [.lit (.bool true)], args := [d1, d2, d3] }
  | _ => none }
def vintPutsRow : OpenClaim := { program := "ytbfpoannmkblhaa", sum := "f497ac70915071aa873770057de8dd733591571972bf021e7fba1c04b98b116a", func := "turnbuckle/turnbucklelaw01.VintPuts", spec := "vintPuts", apart := false }
def VintPutsSaid : Prop := vintPutsRow.holds Try.pinned (OpenSpec.ofChange vintPutsSpec)

/-- ITS FALSE NEIGHBOUR: 'it returns false'. Refute it at one input. -/
def vintPutsWrong : ChangeSpec := { name := "vintPuts", fn := fun _ => fun
  | [d1, d2, d3] => { results := [.lit (.bool false)], args := [d1, d2, d3] }
  | _ => none }
def VintPutsWrongFalsely : Prop := vintPutsRow.holds Try.pinned (OpenSpec.ofChange vintPutsWrong)

/-- 'turnbucklelaw01.VintGets': WHATEVER THE INPUT: true; the input reads as it did. -/
def vintGetsSpec : ChangeSpec := { name := "vintGets", fn := fun _ => fun
  | [d1, d2] => { results := [.lit (.bool true)], args := [d1, d2] }
  | _ => none }
def vintGetsRow : OpenClaim := { program := "ytbfpoannmkblhaa", sum := "f497ac70915071aa873770057de8dd733591571972bf021e7fba1c04b98b116a", func := "turnbuckle/turnbucklelaw01.VintGets", spec := "vintGets", apart := false }
def VintGetsSaid : Prop := vintGetsRow.holds Try.pinned (OpenSpec.ofChange vintGetsSpec)

/-- ITS FALSE NEIGHBOUR: 'it returns false'. Refute it at one input. -/
def vintGetsWrong : ChangeSpec := { name := "vintGets", fn := fun _ => fun
  | [d1, d2] => { results := [.lit (.bool false)], args := [d1, d2] }
  | _ => none }
def VintGetsWrongFalsely : Prop := vintGetsRow.holds Try.pinned (OpenSpec.ofChange vintGetsWrong)

/-- 'turnbucklelaw01.VintBack': WHATEVER THE INPUT: true; the input reads as it did. -/
def vintBackSpec : ChangeSpec := { name := "vintBack", fn := fun _ => fun
  | [d1, d2, d3] => { results := [.lit (.bool true)], args := [d1, d2, d3] }
  | _ => none }
def vintBackRow : OpenClaim := { program := "ytbfpoannmkblhaa", sum := "f497ac70915071aa873770057de8dd733591571972bf021e7fba1c04b98b116a", func := "turnbuckle/turnbucklelaw01.VintBack", spec := "vintBack", apart := false }
def VintBackSaid : Prop := vintBackRow.holds Try.pinned (OpenSpec.ofChange vintBackSpec)

/-- ITS FALSE NEIGHBOUR: 'it returns false'. Refute it at one input. -/
def vintBackWrong : ChangeSpec := { name := "vintBack", fn := fun _ => fun
  | [d1, d2, d3] => { results := [.lit (.bool false)], args := [d1, d2, d3] }
  | _ => none }
def VintBackWrongFalsely : Prop := vintBackRow.holds Try.pinned (OpenSpec.ofChange vintBackWrong)

/-- 'turnbucklelaw01.VintFew': WHATEVER THE INPUT: true; the input reads as it did. -/
def vintFewSpec : ChangeSpec := { name := "vintFew", fn := fun _ => fun
  | [d1, d2] => { results := [.lit (.bool true)], args := [d1, d2] }
  | _ => none }
def vintFewRow : OpenClaim := { program := "ytbfpoannmkblhaa", sum := "f497ac70915071aa873770057de8dd733591571972bf021e7fba1c04b98b116a", func := "turnbuckle/turnbucklelaw01.VintFew", spec := "vintFew", apart := false }
def VintFewSaid : Prop := vintFewRow.holds Try.pinned (OpenSpec.ofChange vintFewSpec)

/-- ITS FALSE NEIGHBOUR: 'it returns false'. Refute it at one input. -/
def vintFewWrong : ChangeSpec := { name := "vintFew", fn := fun _ => fun
  | [d1, d2] => { results := [.lit (.bool false)], args := [d1, d2] }
  | _ => none }
def VintFewWrongFalsely : Prop := vintFewRow.holds Try.pinned (OpenSpec.ofChange vintFewWrong)

/-- 'turnbucklelaw01.VintOwn': WHATEVER THE INPUT: true; the input reads as it did. -/
def vintOwnSpec : ChangeSpec := { name := "vintOwn", fn := fun _ => fun
  | [d1, d2] => { results := [.lit (.bool true)], args := [d1, d2] }
  | _ => none }
def vintOwnRow : OpenClaim := { program := "ytbfpoannmkblhaa", sum := "f497ac70915071aa873770057de8dd733591571972bf021e7fba1c04b98b116a", func := "turnbuckle/turnbucklelaw01.VintOwn", spec := "vintOwn", apart := false }
def VintOwnSaid : Prop := vintOwnRow.holds Try.pinned (OpenSpec.ofChange vintOwnSpec)

/-- ITS FALSE NEIGHBOUR: 'it returns false'. Refute it at one input. -/
def vintOwnWrong : ChangeSpec := { name := "vintOwn", fn := fun _ => fun
  | [d1, d2] => { results := [.lit (.bool false)], args := [d1, d2] }
  | _ => none }
def VintOwnWrongFalsely : Prop := vintOwnRow.holds Try.pinned (OpenSpec.ofChange vintOwnWrong)

/-- 'turnbucklelaw01.VintAll': WHATEVER THE INPUT: true; the input reads as it did. -/
def vintAllSpec : ChangeSpec := { name := "vintAll", fn := fun _ => fun
  | [d] => { results := [.lit (.bool true)], args := [d] }
  | _ => none }
def vintAllRow : OpenClaim := { program := "ytbfpoannmkblhaa", sum := "f497ac70915071aa873770057de8dd733591571972bf021e7fba1c04b98b116a", func := "turnbuckle/turnbucklelaw01.VintAll", spec := "vintAll", apart := false }
def VintAllSaid : Prop := vintAllRow.holds Try.pinned (OpenSpec.ofChange vintAllSpec)

/-- ITS FALSE NEIGHBOUR: 'it returns false'. Refute it at one input. -/
def vintAllWrong : ChangeSpec := { name := "vintAll", fn := fun _ => fun
  | [d] => { results := [.lit (.bool false)], args := [d] }
  | _ => none }
def VintAllWrongFalsely : Prop := vintAllRow.holds Try.pinned (OpenSpec.ofChange vintAllWrong)

/-- 'turnbucklelaw01.VintRow': WHATEVER THE INPUT: true; the input reads as it did. -/
def vintRowSpec : ChangeSpec := { name := "vintRow", fn := fun _ => fun
  | [d] => { results := [.lit (.bool true)], args := [d] }
  | _ => none }
def vintRowRow : OpenClaim := { program := "ytbfpoannmkblhaa", sum := "f497ac70915071aa873770057de8dd733591571972bf021e7fba1c04b98b116a", func := "turnbuckle/turnbucklelaw01.VintRow", spec := "vintRow", apart := false }
def VintRowSaid : Prop := vintRowRow.holds Try.pinned (OpenSpec.ofChange vintRowSpec)

/-- ITS FALSE NEIGHBOUR: 'it returns false'. Refute it at one input. -/
def vintRowWrong : ChangeSpec := { name := "vintRow", fn := fun _ => fun
  | [d] => { results := [.lit (.bool false)], args := [d] }
  | _ => none }
def VintRowWrongFalsely : Prop := vintRowRow.holds Try.pinned (OpenSpec.ofChange vintRowWrong)

/- THE SECOND FORM. 'bulk': how many values and letters a reading holds, each counted each time it is reached (what is shared counts as often as it is met; a slice's spare places count too). A statement '..UptoSaid' is the law's where the arguments, and the package variables that the reading takes, are together of bulk at most 1048576: NARROWER than '..Said'. Prove '..Said' where nothing that the law and all that it calls make is longer than what came in: it says more and counts as full. Else prove '..UptoSaid'. A law counts once. -/
mutual
def uptoBulk {H : Type} : DataW H → Nat
  | .lit (.string bytes) => bytes.length + 1
  | .lit _ => 1
  | .nil => 1
  | .ptr d => uptoBulk d + 1
  | .slice elems spare => uptoBulkAll elems + uptoBulkAll spare + 1
  | .agg parts => uptoBulkAll parts + 1
  | .iface _ d => uptoBulk d + 1
  | .map entries => uptoBulkEntries entries + 1
  | .held _ => 1
def uptoBulkAll {H : Type} : List (DataW H) → Nat
  | [] => 0
  | d :: r => uptoBulk d + uptoBulkAll r
def uptoBulkEntries {H : Type} : List (Lit × DataW H) → Nat
  | [] => 0
  | x :: r => uptoBulkEntry x + uptoBulkEntries r
def uptoBulkEntry {H : Type} : Lit × DataW H → Nat
  | (.string bytes, d) => bytes.length + uptoBulk d + 1
  | (_, d) => uptoBulk d + 1
 end
def uptoSmall : (H : Type) → List (DataW H) → Bool := fun _ ds => decide (uptoBulkAll ds ≤ 1048576)
def OpenSpec.upto (s : _root_.Go.ChangeSpec) : _root_.Go.OpenSpec := { _root_.Go.OpenSpec.ofChange s with cond := some uptoSmall }

/-- 'turnbucklelaw01.VintPuts', WHERE WHAT IT READS IS OF BULK AT MOST 1048576: true; the input reads as it did. -/
def vintPutsUptoRow : OpenClaim := { program := "ytbfpoannmkblhaa", sum := "f497ac70915071aa873770057de8dd733591571972bf021e7fba1c04b98b116a", func := "turnbuckle/turnbucklelaw01.VintPuts", spec := "vintPuts", apart := false, narrowed := true }
def VintPutsUptoSaid : Prop := vintPutsUptoRow.holds Try.pinned (OpenSpec.upto vintPutsSpec)

/-- 'turnbucklelaw01.VintGets', WHERE WHAT IT READS IS OF BULK AT MOST 1048576: true; the input reads as it did. -/
def vintGetsUptoRow : OpenClaim := { program := "ytbfpoannmkblhaa", sum := "f497ac70915071aa873770057de8dd733591571972bf021e7fba1c04b98b116a", func := "turnbuckle/turnbucklelaw01.VintGets", spec := "vintGets", apart := false, narrowed := true }
def VintGetsUptoSaid : Prop := vintGetsUptoRow.holds Try.pinned (OpenSpec.upto vintGetsSpec)

/-- 'turnbucklelaw01.VintBack', WHERE WHAT IT READS IS OF BULK AT MOST 1048576: true; the input reads as it did. -/
def vintBackUptoRow : OpenClaim := { program := "ytbfpoannmkblhaa", sum := "f497ac70915071aa873770057de8dd733591571972bf021e7fba1c04b98b116a", func := "turnbuckle/turnbucklelaw01.VintBack", spec := "vintBack", apart := false, narrowed := true }
def VintBackUptoSaid : Prop := vintBackUptoRow.holds Try.pinned (OpenSpec.upto vintBackSpec)

/-- 'turnbucklelaw01.VintFew', WHERE WHAT IT READS IS OF BULK AT MOST 1048576: true; the input reads as it did. -/
def vintFewUptoRow : OpenClaim := { program := "ytbfpoannmkblhaa", sum := "f497ac70915071aa873770057de8dd733591571972bf021e7fba1c04b98b116a", func := "turnbuckle/turnbucklelaw01.VintFew", spec := "vintFew", apart := false, narrowed := true }
def VintFewUptoSaid : Prop := vintFewUptoRow.holds Try.pinned (OpenSpec.upto vintFewSpec)

/-- 'turnbucklelaw01.VintOwn', WHERE WHAT IT READS IS OF BULK AT MOST 1048576: true; the input reads as it did. -/
def vintOwnUptoRow : OpenClaim := { program := "ytbfpoannmkblhaa", sum := "f497ac70915071aa873770057de8dd733591571972bf021e7fba1c04b98b116a", func := "turnbuckle/turnbucklelaw01.VintOwn", spec := "vintOwn", apart := false, narrowed := true }
def VintOwnUptoSaid : Prop := vintOwnUptoRow.holds Try.pinned (OpenSpec.upto vintOwnSpec)

/-- 'turnbucklelaw01.VintAll', WHERE WHAT IT READS IS OF BULK AT MOST 1048576: true; the input reads as it did. -/
def vintAllUptoRow : OpenClaim := { program := "ytbfpoannmkblhaa", sum := "f497ac70915071aa873770057de8dd733591571972bf021e7fba1c04b98b116a", func := "turnbuckle/turnbucklelaw01.VintAll", spec := "vintAll", apart := false, narrowed := true }
def VintAllUptoSaid : Prop := vintAllUptoRow.holds Try.pinned (OpenSpec.upto vintAllSpec)

/-- 'turnbucklelaw01.VintRow', WHERE WHAT IT READS IS OF BULK AT MOST 1048576: true; the input reads as it did. -/
def vintRowUptoRow : OpenClaim := { program := "ytbfpoannmkblhaa", sum := "f497ac70915071aa873770057de8dd733591571972bf021e7fba1c04b98b116a", func := "turnbuckle/turnbucklelaw01.VintRow", spec := "vintRow", apart := false, narrowed := true }
def VintRowUptoSaid : Prop := vintRowUptoRow.holds Try.pinned (OpenSpec.upto vintRowSpec)

end Rows
end Go.Proofs.Ytbfpoannmkblhaa
