/-
  No cell of these rows narrows 'for every input' (looked for: loops, veiled, ifaces, maps, wideKeys, modest, calm, conditions, laid).
  DERIVED. THE GIVEN ROWS OF THIS SEAT. 6 by the template 'for every input the law returns true; each argument reads behind the call as it read before'; 0 by the template 'total and deterministic' (their statements: YtggemgbkkhpenaaTotals.lean).
  GIVEN WITH THE SEED: the statements are not yours to turn. If you find one false, say at which input.
  Laid BY PROGRAM, IN A SANDBOX (cutbox-rows.mjs): the forced cells as the released guide's own fill.sh prints them over the translation 76065af2ed3190fe… (all of the seat's roots in one cut). By AI agents, Wed Nov 11 2026. No macro, syntax, notation, axiom, sorry.
-/
import Derived.Test.YtggemgbkkhpenaaChecked
import GoSem.Claim
import GoSem.ClaimJoined
import GoSem.ClaimMapViews
import Derived.JoinedTies
import Derived.KernelRfl
namespace Go.Proofs.Ytggemgbkkhpenaa
/- THE CELL 'sum', in the pinned program and in every row, IS THE sha256 OF THE DUMP (.gsa) THAT YtggemgbkkhpenaaProg.lean LOADS. Nothing in Lean hashes anything: it is a label: what it is worth is what the hold of that sum in a sandbox is worth. -/
noncomputable def Try.pinned : Pinned := { name := "ytggemgbkkhpenaa", sum := "76065af2ed3190feeffaac9ae6839361712b509a66d146b857f694249fff48e2", checked := Try.checked }
namespace Rows
def none {H : Type} : Left H := { results := [], args := [] }

/-- 'turnbucklelaw07.CongTells': WHATEVER THE INPUT: true; the input reads as it did. -/
def congTellsSpec : ChangeSpec := { name := "congTells", fn := fun _ => fun
  | [d] => { results := [.lit (.bool true)], args := [d] }
  | _ => none }
def congTellsRow : OpenClaim := { program := "ytggemgbkkhpenaa", sum := "76065af2ed3190feeffaac9ae6839361712b509a66d146b857f694249fff48e2", func := "turnbuckle/turnbucklelaw07.CongTells", spec := "congTells", unfollowed := true, recurses := true, apart := false }
def CongTellsSaid : Prop := congTellsRow.holds Try.pinned (OpenSpec.ofChange congTellsSpec)

/-- ITS FALSE NEIGHBOUR: 'it returns false'. Refute it at one input. -/
def congTellsWrong : ChangeSpec := { name := "congTells", fn := fun _ => fun
  | [d] => { results := [.lit (.bool false)], args := [d] }
  | _ => none }
def CongTellsWrongFalsely : Prop := congTellsRow.holds Try.pinned (OpenSpec.ofChange congTellsWrong)

/-- 'turnbucklelaw07.CongHears': WHATEVER THE INPUT: true; the input reads as it did. -/
def congHearsSpec : ChangeSpec := { name := "congHears", fn := fun _ => fun
  | [d1, d2, d3] => { results := [.lit (.bool true)], args := [d1, d2, d3] }
  | _ => none }
def congHearsRow : OpenClaim := { program := "ytggemgbkkhpenaa", sum := "76065af2ed3190feeffaac9ae6839361712b509a66d146b857f694249fff48e2", func := "turnbuckle/turnbucklelaw07.CongHears", spec := "congHears", unfollowed := true, recurses := true, apart := false }
def CongHearsSaid : Prop := congHearsRow.holds Try.pinned (OpenSpec.ofChange congHearsSpec)

/-- ITS FALSE NEIGHBOUR: 'it returns false'. Refute it at one input. -/
def congHearsWrong : ChangeSpec := { name := "congHears", fn := fun _ => fun
  | [d1, d2, d3] => { results := [.lit (.bool false)], args := [d1, d2, d3] }
  | _ => none }
def CongHearsWrongFalsely : Prop := congHearsRow.holds Try.pinned (OpenSpec.ofChange congHearsWrong)

/-- 'turnbucklelaw07.CongSends': WHATEVER THE INPUT: true; the input reads as it did. -/
def congSendsSpec : ChangeSpec := { name := "congSends", fn := fun _ => fun
  | [d1, d2] => { results := [.lit (.bool true)], args := [d1, d2] }
  | _ => none }
def congSendsRow : OpenClaim := { program := "ytggemgbkkhpenaa", sum := "76065af2ed3190feeffaac9ae6839361712b509a66d146b857f694249fff48e2", func := "turnbuckle/turnbucklelaw07.CongSends", spec := "congSends", unfollowed := true, recurses := true, apart := false }
def CongSendsSaid : Prop := congSendsRow.holds Try.pinned (OpenSpec.ofChange congSendsSpec)

/-- ITS FALSE NEIGHBOUR: 'it returns false'. Refute it at one input. -/
def congSendsWrong : ChangeSpec := { name := "congSends", fn := fun _ => fun
  | [d1, d2] => { results := [.lit (.bool false)], args := [d1, d2] }
  | _ => none }
def CongSendsWrongFalsely : Prop := congSendsRow.holds Try.pinned (OpenSpec.ofChange congSendsWrong)

/-- 'turnbucklelaw07.CongBounds': WHATEVER THE INPUT: true; the input reads as it did. -/
def congBoundsSpec : ChangeSpec := { name := "congBounds", fn := fun _ => fun
  | [d] => { results := [.lit (.bool true)], args := [d] }
  | _ => none }
def congBoundsRow : OpenClaim := { program := "ytggemgbkkhpenaa", sum := "76065af2ed3190feeffaac9ae6839361712b509a66d146b857f694249fff48e2", func := "turnbuckle/turnbucklelaw07.CongBounds", spec := "congBounds", unfollowed := true, recurses := true, apart := false }
def CongBoundsSaid : Prop := congBoundsRow.holds Try.pinned (OpenSpec.ofChange congBoundsSpec)

/-- ITS FALSE NEIGHBOUR: 'it returns false'. Refute it at one input. -/
def congBoundsWrong : ChangeSpec := { name := "congBounds", fn := fun _ => fun
  | [d] => { results := [.lit (.bool false)], args := [d] }
  | _ => none }
def CongBoundsWrongFalsely : Prop := congBoundsRow.holds Try.pinned (OpenSpec.ofChange congBoundsWrong)

/-- 'turnbucklelaw07.CongOnce': WHATEVER THE INPUT: true; the input reads as it did. -/
def congOnceSpec : ChangeSpec := { name := "congOnce", fn := fun _ => fun
  | [d1, d2, d3] => { results := [.lit (.bool true)], args := [d1, d2, d3] }
  | _ => none }
def congOnceRow : OpenClaim := { program := "ytggemgbkkhpenaa", sum := "76065af2ed3190feeffaac9ae6839361712b509a66d146b857f694249fff48e2", func := "turnbuckle/turnbucklelaw07.CongOnce", spec := "congOnce", unfollowed := true, recurses := true, apart := false }
def CongOnceSaid : Prop := congOnceRow.holds Try.pinned (OpenSpec.ofChange congOnceSpec)

/-- ITS FALSE NEIGHBOUR: 'it returns false'. Refute it at one input. -/
def congOnceWrong : ChangeSpec := { name := "congOnce", fn := fun _ => fun
  | [d1, d2, d3] => { results := [.lit (.bool false)], args := [d1, d2, d3] }
  | _ => none }
def CongOnceWrongFalsely : Prop := congOnceRow.holds Try.pinned (OpenSpec.ofChange congOnceWrong)

/-- 'turnbucklelaw07.CongFlight': WHATEVER THE INPUT: true; the input reads as it did. -/
def congFlightSpec : ChangeSpec := { name := "congFlight", fn := fun _ => fun
  | [d] => { results := [.lit (.bool true)], args := [d] }
  | _ => none }
def congFlightRow : OpenClaim := { program := "ytggemgbkkhpenaa", sum := "76065af2ed3190feeffaac9ae6839361712b509a66d146b857f694249fff48e2", func := "turnbuckle/turnbucklelaw07.CongFlight", spec := "congFlight", unfollowed := true, recurses := true, apart := false }
def CongFlightSaid : Prop := congFlightRow.holds Try.pinned (OpenSpec.ofChange congFlightSpec)

/-- ITS FALSE NEIGHBOUR: 'it returns false'. Refute it at one input. -/
def congFlightWrong : ChangeSpec := { name := "congFlight", fn := fun _ => fun
  | [d] => { results := [.lit (.bool false)], args := [d] }
  | _ => none }
def CongFlightWrongFalsely : Prop := congFlightRow.holds Try.pinned (OpenSpec.ofChange congFlightWrong)

/- THE SECOND FORM. 'bulk': how many values and letters a reading holds, each counted each time it is reached (what is shared counts as often as it is met; a slice's spare places count too). A statement '..UptoSaid' is the law's where the arguments, and the package variables that the reading takes, are together of bulk at most 1048576: NARROWER than '..Said'. Prove '..Said' where nothing that the law and all that it calls make is longer than what came in: it says more and counts as full. Else prove '..UptoSaid'. A law counts once. -/
mutual
def uptoBulk {H : Type} : DataW H → Nat
  | .lit (.string bytes) => bytes.length + 1
  | .lit _ => 1
  | .nil => 1
  | .ptr d => uptoBulk d + 1
  | .slice elems spare => uptoBulkAll elems + uptoBulkAll spare + 1
  | .agg parts => uptoBulkAll parts + 1
  | .iface _ d => uptoBulk d + 1
  | .map entries => uptoBulkEntries entries + 1
  | .held _ => 1
def uptoBulkAll {H : Type} : List (DataW H) → Nat
  | [] => 0
  | d :: r => uptoBulk d + uptoBulkAll r
def uptoBulkEntries {H : Type} : List (Lit × DataW H) → Nat
  | [] => 0
  | x :: r => uptoBulkEntry x + uptoBulkEntries r
def uptoBulkEntry {H : Type} : Lit × DataW H → Nat
  | (.string bytes, d) => bytes.length + uptoBulk d + 1
  | (_, d) => uptoBulk d + 1
 end
def uptoSmall : (H : Type) → List (DataW H) → Bool := fun _ ds => decide (uptoBulkAll ds ≤ 1048576)
def OpenSpec.upto (s : _root_.Go.ChangeSpec) : _root_.Go.OpenSpec := { _root_.Go.OpenSpec.ofChange s with cond := some uptoSmall }

/-- 'turnbucklelaw07.CongTells', WHERE WHAT IT READS IS OF BULK AT MOST 1048576: true; the input reads as it did. -/
def congTellsUptoRow : OpenClaim := { program := "ytggemgbkkhpenaa", sum := "76065af2ed3190feeffaac9ae6839361712b509a66d146b857f694249fff48e2", func := "turnbuckle/turnbucklelaw07.CongTells", spec := "congTells", unfollowed := true, recurses := true, apart := false, narrowed := true }
def CongTellsUptoSaid : Prop := congTellsUptoRow.holds Try.pinned (OpenSpec.upto congTellsSpec)

/-- 'turnbucklelaw07.CongHears', WHERE WHAT IT READS IS OF BULK AT MOST 1048576: true; the input reads as it did. -/
def congHearsUptoRow : OpenClaim := { program := "ytggemgbkkhpenaa", sum := "76065af2ed3190feeffaac9ae6839361712b509a66d146b857f694249fff48e2", func := "turnbuckle/turnbucklelaw07.CongHears", spec := "congHears", unfollowed := true, recurses := true, apart := false, narrowed := true }
def CongHearsUptoSaid : Prop := congHearsUptoRow.holds Try.pinned (OpenSpec.upto congHearsSpec)

/-- 'turnbucklelaw07.CongSends', WHERE WHAT IT READS IS OF BULK AT MOST 1048576: true; the input reads as it did. -/
def congSendsUptoRow : OpenClaim := { program := "ytggemgbkkhpenaa", sum := "76065af2ed3190feeffaac9ae6839361712b509a66d146b857f694249fff48e2", func := "turnbuckle/turnbucklelaw07.CongSends", spec := "congSends", unfollowed := true, recurses := true, apart := false, narrowed := true }
def CongSendsUptoSaid : Prop := congSendsUptoRow.holds Try.pinned (OpenSpec.upto congSendsSpec)

/-- 'turnbucklelaw07.CongBounds', WHERE WHAT IT READS IS OF BULK AT MOST 1048576: true; the input reads as it did. -/
def congBoundsUptoRow : OpenClaim := { program := "ytggemgbkkhpenaa", sum := "76065af2ed3190feeffaac9ae6839361712b509a66d146b857f694249fff48e2", func := "turnbuckle/turnbucklelaw07.CongBounds", spec := "congBounds", unfollowed := true, recurses := true, apart := false, narrowed := true }
def CongBoundsUptoSaid : Prop := congBoundsUptoRow.holds Try.pinned (OpenSpec.upto congBoundsSpec)

/-- 'turnbucklelaw07.CongOnce', WHERE WHAT IT READS IS OF BULK AT MOST 1048576: true; the input reads as it did. -/
def congOnceUptoRow : OpenClaim := { program := "ytggemgbkkhpenaa", sum := "76065af2ed3190feeffaac9ae6839361712b509a66d146b857f694249fff48e2", func := "turnbuckle/turnbucklelaw07.CongOnce", spec := "congOnce", unfollowed := true, recurses := true, apart := false, narrowed := true }
def CongOnceUptoSaid : Prop := congOnceUptoRow.holds Try.pinned (OpenSpec.upto congOnceSpec)

/-- 'turnbucklelaw07.CongFlight', WHERE WHAT IT READS IS OF BULK AT MOST 1048576: true; the input reads as it did. -/
def congFlightUptoRow : OpenClaim := { program := "ytggemgbkkhpenaa", sum := "76065af2ed3190feeffaac9ae6839361712b509a66d146b857f694249fff48e2", func := "turnbuckle/turnbucklelaw07.CongFlight", spec := "congFlight", unfollowed := true, recurses := true, apart := false, narrowed := true }
def CongFlightUptoSaid : Prop := congFlightUptoRow.holds Try.pinned (OpenSpec.upto congFlightSpec)

end Rows
end Go.Proofs.Ytggemgbkkhpenaa
