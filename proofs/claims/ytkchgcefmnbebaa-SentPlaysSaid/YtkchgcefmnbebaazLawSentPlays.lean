import Derived.Test.YtkchgcefmnbebaaRows
import Derived.Test.YtkchgcefmnbebaazPPlyx2
import Derived.Test.YtkchgcefmnbebaazPureSentPlays
import Derived.Test.YtkchgcefmnbebaazOpens
import Derived.WalkKit
import Derived.ProofKit
import Derived.OpenShut
import Derived.ShutString
import Derived.ChangeOld
import Derived.Below
import Derived.SizedLaws
namespace Go.Proofs.Ytkchgcefmnbebaa.sentPlays
open Go.ChangeShapes Go.WideShapes Go.ChangeAt Go.RowKit Go.Proofs.YtkchgcefmnbebaaW.Opens Go.Proofs.Ytkchgcefmnbebaa.PPly Go.Proofs.YtkchgcefmnbebaaW.PrintWords
open Go.ChangeMaps (open_string shut_string)
set_option linter.unusedVariables false
theorem own : ownKnob Try.prog.godebug = none := by kernel_rfl
theorem laidOut : laidOutB Try.prog = true := by kernel_rfl
theorem opens_T63 : Opens Try.prog 63 k63 (fun x => ((Lit.int .i64 x.f0).wf = true) ∧ ((Lit.int .i64 x.f1).wf = true)) (fun x => (1) + (1) + 1) := by
 intro H enc w fuel cs x h
 obtain ⟨xs, n, _, rfl, hl, hlen, hf⟩ := DataW.trod_struct Try.underlying63 h
 rw [show Try.prog.cellsOf 63 = 2 from by kernel_rfl] at hl
 have hlen' : xs.length = 2 := hlen
 obtain ⟨c0, c1, rfl⟩ : ∃ c0 c1, cs = [c0, c1] := by
  match cs, hl with
  | [c0, c1], _ => exact ⟨c0, c1, rfl⟩
 obtain ⟨y0, y1, rfl⟩ : ∃ y0 y1, xs = [y0, y1] := by
  match xs, hlen' with
  | [y0, y1], _ => exact ⟨y0, y1, rfl⟩
 have e0 : DataW.trod enc Try.prog w 0 (fun _ => true) true n 3 (([c0, c1].drop 0).take (Try.prog.cellsOf 3)) = [y0, y1][0]? := hf 0 _ rfl
 rw [show Try.prog.cellsOf 3 = 1 from by kernel_rfl] at e0
 replace e0 : DataW.trod enc Try.prog w 0 (fun _ => true) true n 3 [c0] = some y0 := e0
 obtain ⟨v0, K0, w0, u0⟩ := (opens_int Try.underlying3) H enc w n _ _ e0
 have e1 : DataW.trod enc Try.prog w 0 (fun _ => true) true n 3 (([c0, c1].drop 1).take (Try.prog.cellsOf 3)) = [y0, y1][1]? := hf 1 _ rfl
 rw [show Try.prog.cellsOf 3 = 1 from by kernel_rfl] at e1
 replace e1 : DataW.trod enc Try.prog w 0 (fun _ => true) true n 3 [c1] = some y1 := e1
 obtain ⟨v1, K1, w1, u1⟩ := (opens_int Try.underlying3) H enc w n _ _ e1
 replace u0 : 1 ≤ Rows.uptoBulk y0.1 := u0
 replace u1 : 1 ≤ Rows.uptoBulk y1.1 := u1
 refine ⟨⟨v0, v1⟩, ⟨[c0], [c1], rfl, K0, K1⟩, ⟨w0, w1⟩, ?_⟩
 simp only [List.map_cons, List.map_nil, Rows.uptoBulk, Rows.uptoBulkAll]
 omega
theorem opens_T32 : Opens Try.prog 32 k32 (fun x => ((Lit.int .u8 x.f0).wf = true) ∧ ((Lit.int .i64 x.f1).wf = true) ∧ ((Lit.int .i64 x.f2).wf = true) ∧ ((Lit.int .i64 x.f3).wf = true) ∧ ((Lit.int .i64 x.f4).wf = true) ∧ (x.f5.length ≤ maxLen ∧ ∀ y ∈ x.f5, ((Lit.int .i64 y.f0).wf = true) ∧ ((Lit.int .i64 y.f1).wf = true))) (fun x => (1) + (1) + (1) + (1) + (1) + ((x.f5.map fun y => (1) + (1) + 1).sum + 1) + 1) := by
 intro H enc w fuel cs x h
 obtain ⟨xs, n, _, rfl, hl, hlen, hf⟩ := DataW.trod_struct Try.underlying32 h
 rw [show Try.prog.cellsOf 32 = 6 from by kernel_rfl] at hl
 have hlen' : xs.length = 6 := hlen
 obtain ⟨c0, c1, c2, c3, c4, c5, rfl⟩ : ∃ c0 c1 c2 c3 c4 c5, cs = [c0, c1, c2, c3, c4, c5] := by
  match cs, hl with
  | [c0, c1, c2, c3, c4, c5], _ => exact ⟨c0, c1, c2, c3, c4, c5, rfl⟩
 obtain ⟨y0, y1, y2, y3, y4, y5, rfl⟩ : ∃ y0 y1 y2 y3 y4 y5, xs = [y0, y1, y2, y3, y4, y5] := by
  match xs, hlen' with
  | [y0, y1, y2, y3, y4, y5], _ => exact ⟨y0, y1, y2, y3, y4, y5, rfl⟩
 have e0 : DataW.trod enc Try.prog w 0 (fun _ => true) true n 5 (([c0, c1, c2, c3, c4, c5].drop 0).take (Try.prog.cellsOf 5)) = [y0, y1, y2, y3, y4, y5][0]? := hf 0 _ rfl
 rw [show Try.prog.cellsOf 5 = 1 from by kernel_rfl] at e0
 replace e0 : DataW.trod enc Try.prog w 0 (fun _ => true) true n 5 [c0] = some y0 := e0
 obtain ⟨v0, K0, w0, u0⟩ := (opens_int Try.underlying5) H enc w n _ _ e0
 have e1 : DataW.trod enc Try.prog w 0 (fun _ => true) true n 3 (([c0, c1, c2, c3, c4, c5].drop 1).take (Try.prog.cellsOf 3)) = [y0, y1, y2, y3, y4, y5][1]? := hf 1 _ rfl
 rw [show Try.prog.cellsOf 3 = 1 from by kernel_rfl] at e1
 replace e1 : DataW.trod enc Try.prog w 0 (fun _ => true) true n 3 [c1] = some y1 := e1
 obtain ⟨v1, K1, w1, u1⟩ := (opens_int Try.underlying3) H enc w n _ _ e1
 have e2 : DataW.trod enc Try.prog w 0 (fun _ => true) true n 3 (([c0, c1, c2, c3, c4, c5].drop 2).take (Try.prog.cellsOf 3)) = [y0, y1, y2, y3, y4, y5][2]? := hf 2 _ rfl
 rw [show Try.prog.cellsOf 3 = 1 from by kernel_rfl] at e2
 replace e2 : DataW.trod enc Try.prog w 0 (fun _ => true) true n 3 [c2] = some y2 := e2
 obtain ⟨v2, K2, w2, u2⟩ := (opens_int Try.underlying3) H enc w n _ _ e2
 have e3 : DataW.trod enc Try.prog w 0 (fun _ => true) true n 3 (([c0, c1, c2, c3, c4, c5].drop 3).take (Try.prog.cellsOf 3)) = [y0, y1, y2, y3, y4, y5][3]? := hf 3 _ rfl
 rw [show Try.prog.cellsOf 3 = 1 from by kernel_rfl] at e3
 replace e3 : DataW.trod enc Try.prog w 0 (fun _ => true) true n 3 [c3] = some y3 := e3
 obtain ⟨v3, K3, w3, u3⟩ := (opens_int Try.underlying3) H enc w n _ _ e3
 have e4 : DataW.trod enc Try.prog w 0 (fun _ => true) true n 3 (([c0, c1, c2, c3, c4, c5].drop 4).take (Try.prog.cellsOf 3)) = [y0, y1, y2, y3, y4, y5][4]? := hf 4 _ rfl
 rw [show Try.prog.cellsOf 3 = 1 from by kernel_rfl] at e4
 replace e4 : DataW.trod enc Try.prog w 0 (fun _ => true) true n 3 [c4] = some y4 := e4
 obtain ⟨v4, K4, w4, u4⟩ := (opens_int Try.underlying3) H enc w n _ _ e4
 have e5 : DataW.trod enc Try.prog w 0 (fun _ => true) true n 30 (([c0, c1, c2, c3, c4, c5].drop 5).take (Try.prog.cellsOf 30)) = [y0, y1, y2, y3, y4, y5][5]? := hf 5 _ rfl
 rw [show Try.prog.cellsOf 30 = 1 from by kernel_rfl] at e5
 replace e5 : DataW.trod enc Try.prog w 0 (fun _ => true) true n 30 [c5] = some y5 := e5
 obtain ⟨v5, K5, w5, u5⟩ := (opens_slice Try.underlying30 (by kernel_rfl) opens_T63) H enc w n _ _ e5
 replace u0 : 1 ≤ Rows.uptoBulk y0.1 := u0
 replace u1 : 1 ≤ Rows.uptoBulk y1.1 := u1
 replace u2 : 1 ≤ Rows.uptoBulk y2.1 := u2
 replace u3 : 1 ≤ Rows.uptoBulk y3.1 := u3
 replace u4 : 1 ≤ Rows.uptoBulk y4.1 := u4
 replace u5 : (v5.map fun y => (1) + (1) + 1).sum + 1 ≤ Rows.uptoBulk y5.1 := u5
 refine ⟨⟨v0, v1, v2, v3, v4, v5⟩, ⟨[c0], [c1, c2, c3, c4, c5], rfl, K0, ⟨[c1], [c2, c3, c4, c5], rfl, K1, ⟨[c2], [c3, c4, c5], rfl, K2, ⟨[c3], [c4, c5], rfl, K3, ⟨[c4], [c5], rfl, K4, K5⟩⟩⟩⟩⟩, ⟨w0, w1, w2, w3, w4, w5⟩, ?_⟩
 simp only [List.map_cons, List.map_nil, Rows.uptoBulk, Rows.uptoBulkAll]
 omega
set_option maxRecDepth 100000 in
theorem lifted (os : Os) (started : os.Started) (H : Type) (enc : TypeId × Value → H) :
  ReturnsInHanded {} Try.checked os 3 .any (Rows.sentPlaysSpec.pre6 enc Try.prog Try.f3 Rows.sentPlaysRow.domain false) (Rows.sentPlaysSpec.post enc Try.prog Try.f3 false true false false) := by
 refine returnsInHanded_of_change_sized (C := Try.checked) own started (by kernel_rfl) Try.func3
  (ChangeSpec.witness6 (enc := enc) (C := Try.checked) false ⟨#[], #[.slice none 0 0], []⟩ 8 (by kernel_rfl) (by kernel_rfl) (by kernel_rfl) (by kernel_rfl)) ?_
 intro W base args ds gs before hval0 hW hcnd hsz0 _
 have hsz : (DataW.weightsEach Try.prog (Try.f3.params.toList ++ Rows.sentPlaysSpec.plain.varTypes Try.prog) (ds ++ gs)).all (· ≤ reachBytes) = true := hsz0
 have hval : ∀ (j : Nat) t v, Try.f3.params[j]? = some t → args[j]? = some v → Value.okWide Try.prog W .any base t v := hval0
 have hW' := hW
 obtain ⟨p, q, hA0, hV, rfl, hfz, hnd⟩ := hW
 have hA : DataW.TrodAll enc Try.prog W 0 (fun _ => true) true Try.f3.params.toList args.toList ds p := hA0
 rw [Try.params3] at hA hval hsz
 obtain ⟨v0, vs0, d0, ds0, p0, q0, hargs, rfl, rfl, h0, r0⟩ := trodAll_cons hA
 obtain ⟨rfl, rfl, rfl⟩ := trodAll_nil r0
 obtain rfl : args = #[v0] := by cases args; simp_all
 obtain ⟨rfl, rfl⟩ := trodVars_none hV
 have k0 := h0
 have lt0 : ∀ x ∈ p0, x.block < W.heap.size := by obtain ⟨m, hm⟩ := k0; exact DataW.trod_lt m _ _ _ hm
 obtain ⟨A0, len0, c0, rfl⟩ := okWide_slice Try.underlying22 (hval 0 22 v0 rfl rfl)
 have y0 : len0 * 64 ≤ 140737488351232 := sized_any hsz (j := 0) (t := 22) rfl rfl Try.underlying22 (by kernel_rfl) h0
 obtain ⟨l0, rfl, hc0, hr0, w0, u0⟩ := slice_cells (opens_slice Try.underlying22 (by kernel_rfl) opens_T32) h0
 clear hA0 hval0 hsz0 hsz
 have hk := Pure.SentPlays l0 w0.1 y0 w0.2
 refine (turnbucklelaw08_SentPlays.calls A0 c0 l0 true W hr0 hc0 hk).mono fun e W' ⟨he, bel0⟩ => ?_
 have bel : Below W.heap.size W W' := bel0
 subst he
 exact ⟨_, rfl, _, _, _, [], _, [], hW', trodAll_mk1 (shut_bool Try.underlying4 _), (trodAll_cons_mk (Below.trod laidOut (by kernel_rfl) (of_decide_eq_true (by kernel_rfl)) k0 bel lt0) trodAll_mk0), rfl, bel.frame _, fun h => by cases h⟩
theorem over : Rows.sentPlaysRow.holds Try.pinned (OpenSpec.ofChange Rows.sentPlaysSpec) :=
 OpenClaim.holds_of_wide 3 Try.f3 rfl rfl rfl rfl rfl rfl rfl ⟨rfl, rfl, rfl, rfl, rfl⟩ rfl rfl rfl rfl rfl (by kernel_rfl) Try.func3 (by kernel_rfl)
  (of_decide_eq_true (by kernel_rfl)) (by unfold Func.isWrapper; first | (rw [if_pos (by decide +kernel)]; kernel_rfl) | (rw [if_neg (by decide +kernel)]; exact ⟨rfl, rfl⟩))
  (fun os started H enc _ => lifted os started H enc)
theorem proved : Rows.SentPlaysSaid := over
#print axioms proved
end Go.Proofs.Ytkchgcefmnbebaa.sentPlays
namespace Go.Proofs.Ytkchgcefmnbebaa
theorem sentPlays_holds : Rows.SentPlaysSaid := sentPlays.proved
end Go.Proofs.Ytkchgcefmnbebaa
