import Derived.Test.YtpdchohbmmfemaaRows
import Derived.Test.YtpdchohbmmfemaazPWrix2
import Derived.Test.YtpdchohbmmfemaazPureFramesWrites
import Derived.Test.YtpdchohbmmfemaazOpens
import Derived.WalkKit
import Derived.ProofKit
import Derived.OpenShut
import Derived.ShutString
import Derived.ChangeOld
import Derived.Below
import Derived.SizedLaws
namespace Go.Proofs.Ytpdchohbmmfemaa.framesWrites
open Go.ChangeShapes Go.WideShapes Go.ChangeAt Go.RowKit Go.Proofs.YtpdchohbmmfemaaW.Opens Go.Proofs.Ytpdchohbmmfemaa.PWri Go.Proofs.YtpdchohbmmfemaaW.PrintWords
open Go.ChangeMaps (open_string shut_string)
set_option linter.unusedVariables false
theorem own : ownKnob Try.prog.godebug = none := by kernel_rfl
theorem laidOut : laidOutB Try.prog = true := by kernel_rfl
theorem opens_T42 : Opens Try.prog 42 k42 (fun x => ((Lit.int .i64 x.f0).wf = true) ∧ ((Lit.int .i64 x.f1).wf = true)) (fun x => (1) + (1) + 1) := by
 intro H enc w fuel cs x h
 obtain ⟨xs, n, _, rfl, hl, hlen, hf⟩ := DataW.trod_struct Try.underlying42 h
 rw [show Try.prog.cellsOf 42 = 2 from by kernel_rfl] at hl
 have hlen' : xs.length = 2 := hlen
 obtain ⟨c0, c1, rfl⟩ : ∃ c0 c1, cs = [c0, c1] := by
  match cs, hl with
  | [c0, c1], _ => exact ⟨c0, c1, rfl⟩
 obtain ⟨y0, y1, rfl⟩ : ∃ y0 y1, xs = [y0, y1] := by
  match xs, hlen' with
  | [y0, y1], _ => exact ⟨y0, y1, rfl⟩
 have e0 : DataW.trod enc Try.prog w 0 (fun _ => true) true n 3 (([c0, c1].drop 0).take (Try.prog.cellsOf 3)) = [y0, y1][0]? := hf 0 _ rfl
 rw [show Try.prog.cellsOf 3 = 1 from by kernel_rfl] at e0
 replace e0 : DataW.trod enc Try.prog w 0 (fun _ => true) true n 3 [c0] = some y0 := e0
 obtain ⟨v0, K0, w0, u0⟩ := (opens_int Try.underlying3) H enc w n _ _ e0
 have e1 : DataW.trod enc Try.prog w 0 (fun _ => true) true n 3 (([c0, c1].drop 1).take (Try.prog.cellsOf 3)) = [y0, y1][1]? := hf 1 _ rfl
 rw [show Try.prog.cellsOf 3 = 1 from by kernel_rfl] at e1
 replace e1 : DataW.trod enc Try.prog w 0 (fun _ => true) true n 3 [c1] = some y1 := e1
 obtain ⟨v1, K1, w1, u1⟩ := (opens_int Try.underlying3) H enc w n _ _ e1
 replace u0 : 1 ≤ Rows.uptoBulk y0.1 := u0
 replace u1 : 1 ≤ Rows.uptoBulk y1.1 := u1
 refine ⟨⟨v0, v1⟩, ⟨[c0], [c1], rfl, K0, K1⟩, ⟨w0, w1⟩, ?_⟩
 simp only [List.map_cons, List.map_nil, Rows.uptoBulk, Rows.uptoBulkAll]
 omega
theorem opens_T36 : Opens Try.prog 36 k36 (fun x => ((Lit.int .i64 x.f0).wf = true) ∧ ((Lit.int .i64 x.f1).wf = true) ∧ ((Lit.int .i64 x.f2).wf = true) ∧ ((Lit.int .i64 x.f3).wf = true) ∧ ((Lit.int .i64 x.f4).wf = true) ∧ (True) ∧ (x.f6.length ≤ maxLen ∧ ∀ y ∈ x.f6, (Lit.int .u8 y).wf = true) ∧ (x.f7.length ≤ maxLen ∧ ∀ y ∈ x.f7, ((Lit.int .i64 y.f0).wf = true) ∧ ((Lit.int .i64 y.f1).wf = true))) (fun x => (1) + (1) + (1) + (1) + (1) + (1) + (x.f6.length + 1) + ((x.f7.map fun y => (1) + (1) + 1).sum + 1) + 1) := by
 intro H enc w fuel cs x h
 obtain ⟨xs, n, _, rfl, hl, hlen, hf⟩ := DataW.trod_struct Try.underlying36 h
 rw [show Try.prog.cellsOf 36 = 8 from by kernel_rfl] at hl
 have hlen' : xs.length = 8 := hlen
 obtain ⟨c0, c1, c2, c3, c4, c5, c6, c7, rfl⟩ : ∃ c0 c1 c2 c3 c4 c5 c6 c7, cs = [c0, c1, c2, c3, c4, c5, c6, c7] := by
  match cs, hl with
  | [c0, c1, c2, c3, c4, c5, c6, c7], _ => exact ⟨c0, c1, c2, c3, c4, c5, c6, c7, rfl⟩
 obtain ⟨y0, y1, y2, y3, y4, y5, y6, y7, rfl⟩ : ∃ y0 y1 y2 y3 y4 y5 y6 y7, xs = [y0, y1, y2, y3, y4, y5, y6, y7] := by
  match xs, hlen' with
  | [y0, y1, y2, y3, y4, y5, y6, y7], _ => exact ⟨y0, y1, y2, y3, y4, y5, y6, y7, rfl⟩
 have e0 : DataW.trod enc Try.prog w 0 (fun _ => true) true n 3 (([c0, c1, c2, c3, c4, c5, c6, c7].drop 0).take (Try.prog.cellsOf 3)) = [y0, y1, y2, y3, y4, y5, y6, y7][0]? := hf 0 _ rfl
 rw [show Try.prog.cellsOf 3 = 1 from by kernel_rfl] at e0
 replace e0 : DataW.trod enc Try.prog w 0 (fun _ => true) true n 3 [c0] = some y0 := e0
 obtain ⟨v0, K0, w0, u0⟩ := (opens_int Try.underlying3) H enc w n _ _ e0
 have e1 : DataW.trod enc Try.prog w 0 (fun _ => true) true n 3 (([c0, c1, c2, c3, c4, c5, c6, c7].drop 1).take (Try.prog.cellsOf 3)) = [y0, y1, y2, y3, y4, y5, y6, y7][1]? := hf 1 _ rfl
 rw [show Try.prog.cellsOf 3 = 1 from by kernel_rfl] at e1
 replace e1 : DataW.trod enc Try.prog w 0 (fun _ => true) true n 3 [c1] = some y1 := e1
 obtain ⟨v1, K1, w1, u1⟩ := (opens_int Try.underlying3) H enc w n _ _ e1
 have e2 : DataW.trod enc Try.prog w 0 (fun _ => true) true n 3 (([c0, c1, c2, c3, c4, c5, c6, c7].drop 2).take (Try.prog.cellsOf 3)) = [y0, y1, y2, y3, y4, y5, y6, y7][2]? := hf 2 _ rfl
 rw [show Try.prog.cellsOf 3 = 1 from by kernel_rfl] at e2
 replace e2 : DataW.trod enc Try.prog w 0 (fun _ => true) true n 3 [c2] = some y2 := e2
 obtain ⟨v2, K2, w2, u2⟩ := (opens_int Try.underlying3) H enc w n _ _ e2
 have e3 : DataW.trod enc Try.prog w 0 (fun _ => true) true n 3 (([c0, c1, c2, c3, c4, c5, c6, c7].drop 3).take (Try.prog.cellsOf 3)) = [y0, y1, y2, y3, y4, y5, y6, y7][3]? := hf 3 _ rfl
 rw [show Try.prog.cellsOf 3 = 1 from by kernel_rfl] at e3
 replace e3 : DataW.trod enc Try.prog w 0 (fun _ => true) true n 3 [c3] = some y3 := e3
 obtain ⟨v3, K3, w3, u3⟩ := (opens_int Try.underlying3) H enc w n _ _ e3
 have e4 : DataW.trod enc Try.prog w 0 (fun _ => true) true n 3 (([c0, c1, c2, c3, c4, c5, c6, c7].drop 4).take (Try.prog.cellsOf 3)) = [y0, y1, y2, y3, y4, y5, y6, y7][4]? := hf 4 _ rfl
 rw [show Try.prog.cellsOf 3 = 1 from by kernel_rfl] at e4
 replace e4 : DataW.trod enc Try.prog w 0 (fun _ => true) true n 3 [c4] = some y4 := e4
 obtain ⟨v4, K4, w4, u4⟩ := (opens_int Try.underlying3) H enc w n _ _ e4
 have e5 : DataW.trod enc Try.prog w 0 (fun _ => true) true n 4 (([c0, c1, c2, c3, c4, c5, c6, c7].drop 5).take (Try.prog.cellsOf 4)) = [y0, y1, y2, y3, y4, y5, y6, y7][5]? := hf 5 _ rfl
 rw [show Try.prog.cellsOf 4 = 1 from by kernel_rfl] at e5
 replace e5 : DataW.trod enc Try.prog w 0 (fun _ => true) true n 4 [c5] = some y5 := e5
 obtain ⟨v5, K5, w5, u5⟩ := (opens_bool Try.underlying4) H enc w n _ _ e5
 have e6 : DataW.trod enc Try.prog w 0 (fun _ => true) true n 23 (([c0, c1, c2, c3, c4, c5, c6, c7].drop 6).take (Try.prog.cellsOf 23)) = [y0, y1, y2, y3, y4, y5, y6, y7][6]? := hf 6 _ rfl
 rw [show Try.prog.cellsOf 23 = 1 from by kernel_rfl] at e6
 replace e6 : DataW.trod enc Try.prog w 0 (fun _ => true) true n 23 [c6] = some y6 := e6
 obtain ⟨v6, K6, w6, u6⟩ := (opens_slice1 Try.underlying23 (by kernel_rfl) (opens_int Try.underlying5)) H enc w n _ _ e6
 have e7 : DataW.trod enc Try.prog w 0 (fun _ => true) true n 34 (([c0, c1, c2, c3, c4, c5, c6, c7].drop 7).take (Try.prog.cellsOf 34)) = [y0, y1, y2, y3, y4, y5, y6, y7][7]? := hf 7 _ rfl
 rw [show Try.prog.cellsOf 34 = 1 from by kernel_rfl] at e7
 replace e7 : DataW.trod enc Try.prog w 0 (fun _ => true) true n 34 [c7] = some y7 := e7
 obtain ⟨v7, K7, w7, u7⟩ := (opens_slice Try.underlying34 (by kernel_rfl) opens_T42) H enc w n _ _ e7
 replace u0 : 1 ≤ Rows.uptoBulk y0.1 := u0
 replace u1 : 1 ≤ Rows.uptoBulk y1.1 := u1
 replace u2 : 1 ≤ Rows.uptoBulk y2.1 := u2
 replace u3 : 1 ≤ Rows.uptoBulk y3.1 := u3
 replace u4 : 1 ≤ Rows.uptoBulk y4.1 := u4
 replace u5 : 1 ≤ Rows.uptoBulk y5.1 := u5
 replace u6 : v6.length + 1 ≤ Rows.uptoBulk y6.1 := u6
 replace u7 : (v7.map fun y => (1) + (1) + 1).sum + 1 ≤ Rows.uptoBulk y7.1 := u7
 refine ⟨⟨v0, v1, v2, v3, v4, v5, v6, v7⟩, ⟨[c0], [c1, c2, c3, c4, c5, c6, c7], rfl, K0, ⟨[c1], [c2, c3, c4, c5, c6, c7], rfl, K1, ⟨[c2], [c3, c4, c5, c6, c7], rfl, K2, ⟨[c3], [c4, c5, c6, c7], rfl, K3, ⟨[c4], [c5, c6, c7], rfl, K4, ⟨[c5], [c6, c7], rfl, K5, ⟨[c6], [c7], rfl, K6, K7⟩⟩⟩⟩⟩⟩⟩, ⟨w0, w1, w2, w3, w4, w5, w6, w7⟩, ?_⟩
 simp only [List.map_cons, List.map_nil, Rows.uptoBulk, Rows.uptoBulkAll]
 omega
set_option maxRecDepth 100000 in
theorem lifted (os : Os) (started : os.Started) (H : Type) (enc : TypeId × Value → H) :
  ReturnsInHanded {} Try.checked os 8 .any (Rows.framesWritesSpec.pre6 enc Try.prog Try.f8 Rows.framesWritesRow.domain false) (Rows.framesWritesSpec.post enc Try.prog Try.f8 false true false false) := by
 refine returnsInHanded_of_change_sized (C := Try.checked) own started (by kernel_rfl) Try.func8
  (ChangeSpec.witness6 (enc := enc) (C := Try.checked) false ⟨#[], #[.slice none 0 0, .slice none 0 0], []⟩ 8 (by kernel_rfl) (by kernel_rfl) (by kernel_rfl) (by kernel_rfl)) ?_
 intro W base args ds gs before hval0 hW hcnd hsz0 _
 have hsz : (DataW.weightsEach Try.prog (Try.f8.params.toList ++ Rows.framesWritesSpec.plain.varTypes Try.prog) (ds ++ gs)).all (· ≤ reachBytes) = true := hsz0
 have hval : ∀ (j : Nat) t v, Try.f8.params[j]? = some t → args[j]? = some v → Value.okWide Try.prog W .any base t v := hval0
 have hW' := hW
 obtain ⟨p, q, hA0, hV, rfl, hfz, hnd⟩ := hW
 have hA : DataW.TrodAll enc Try.prog W 0 (fun _ => true) true Try.f8.params.toList args.toList ds p := hA0
 rw [Try.params8] at hA hval hsz
 obtain ⟨v0, vs0, d0, ds0, p0, q0, hargs, rfl, rfl, h0, r0⟩ := trodAll_cons hA
 obtain ⟨v1, vs1, d1, ds1, p1, q1, rfl, rfl, rfl, h1, r1⟩ := trodAll_cons r0
 obtain ⟨rfl, rfl, rfl⟩ := trodAll_nil r1
 obtain rfl : args = #[v0, v1] := by cases args; simp_all
 obtain ⟨rfl, rfl⟩ := trodVars_none hV
 have k0 := h0
 have lt0 : ∀ x ∈ p0, x.block < W.heap.size := by obtain ⟨m, hm⟩ := k0; exact DataW.trod_lt m _ _ _ hm
 obtain ⟨A0, len0, c0, rfl⟩ := okWide_slice Try.underlying22 (hval 0 22 v0 rfl rfl)
 have y0 : len0 * 96 ≤ 140737488351232 := sized_any hsz (j := 0) (t := 22) rfl rfl Try.underlying22 (by kernel_rfl) h0
 obtain ⟨l0, rfl, hc0, hr0, w0, u0⟩ := slice_cells (opens_slice Try.underlying22 (by kernel_rfl) opens_T36) h0
 have k1 := h1
 have lt1 : ∀ x ∈ p1, x.block < W.heap.size := by obtain ⟨m, hm⟩ := k1; exact DataW.trod_lt m _ _ _ hm
 obtain ⟨A1, len1, c1, rfl⟩ := okWide_slice Try.underlying22 (hval 1 22 v1 rfl rfl)
 have y1 : len1 * 96 ≤ 140737488351232 := sized_any hsz (j := 1) (t := 22) rfl rfl Try.underlying22 (by kernel_rfl) h1
 obtain ⟨l1, rfl, hc1, hr1, w1, u1⟩ := slice_cells (opens_slice Try.underlying22 (by kernel_rfl) opens_T36) h1
 clear hA0 hval0 hsz0 hsz
 have hk := Pure.FramesWrites l0 l1 w0.1 y0 w0.2 w1.1 y1 w1.2
 refine (turnbucklelaw04_FramesWrites.calls A0 c0 l0 A1 c1 l1 true W hr0 hc0 hr1 hc1 hk).mono fun e W' ⟨he, bel0⟩ => ?_
 have bel : Below W.heap.size W W' := bel0
 subst he
 exact ⟨_, rfl, _, _, _, [], _, [], hW', trodAll_mk1 (shut_bool Try.underlying4 _), (trodAll_cons_mk (Below.trod laidOut (by kernel_rfl) (of_decide_eq_true (by kernel_rfl)) k0 bel lt0) (trodAll_cons_mk (Below.trod laidOut (by kernel_rfl) (of_decide_eq_true (by kernel_rfl)) k1 bel lt1) trodAll_mk0)), rfl, bel.frame _, fun h => by cases h⟩
theorem over : Rows.framesWritesRow.holds Try.pinned (OpenSpec.ofChange Rows.framesWritesSpec) :=
 OpenClaim.holds_of_wide 8 Try.f8 rfl rfl rfl rfl rfl rfl rfl ⟨rfl, rfl, rfl, rfl, rfl⟩ rfl rfl rfl rfl rfl (by kernel_rfl) Try.func8 (by kernel_rfl)
  (of_decide_eq_true (by kernel_rfl)) (by unfold Func.isWrapper; first | (rw [if_pos (by decide +kernel)]; kernel_rfl) | (rw [if_neg (by decide +kernel)]; exact ⟨rfl, rfl⟩))
  (fun os started H enc _ => lifted os started H enc)
theorem proved : Rows.FramesWritesSaid := over
#print axioms proved
end Go.Proofs.Ytpdchohbmmfemaa.framesWrites
namespace Go.Proofs.Ytpdchohbmmfemaa
theorem framesWrites_holds : Rows.FramesWritesSaid := framesWrites.proved
end Go.Proofs.Ytpdchohbmmfemaa
