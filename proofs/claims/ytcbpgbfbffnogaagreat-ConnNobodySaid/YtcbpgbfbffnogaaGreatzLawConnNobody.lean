/- For every input the law ConnNobody answers true, and its argument reads behind the call as before: an end that nobody made answers an error and is idle; no condition but what the row says. -/
import Derived.Test.YtcbpgbfbffnogaaGreatRows
import Derived.Test.YtcbpgbfbffnogaaGreatzPNobx3
import Derived.Test.YtcbpgbfbffnogaaGreatzPureConnNobody
import Derived.Test.YtcbpgbfbffnogaaGreatzOpens
import Derived.WalkKit
import Derived.ProofKit
import Derived.OpenShut
import Derived.ShutString
import Derived.ChangeOld
import Derived.Below
import Derived.SizedLaws
namespace Go.Proofs.YtcbpgbfbffnogaaGreat.connNobody
open Go.ChangeShapes Go.WideShapes Go.ChangeAt Go.RowKit Go.Proofs.YtcbpgbfbffnogaaGreatW.Opens Go.Proofs.YtcbpgbfbffnogaaGreat.PNob Go.Proofs.YtcbpgbfbffnogaaGreatW.PrintWords
open Go.ChangeMaps (open_string shut_string)
set_option linter.unusedVariables false
theorem own : ownKnob Tryz.prog.godebug = none := by kernel_rfl
theorem laidOut : laidOutB Tryz.prog = true := by kernel_rfl
set_option maxRecDepth 20000 in
theorem opens_T31 : Opens Tryz.prog 31 k31 (fun x => ((Lit.int .i64 x.f0).wf = true) ∧ ((Lit.int .i64 x.f1).wf = true) ∧ ((Lit.int .i64 x.f2).wf = true) ∧ ((Lit.int .i64 x.f3).wf = true) ∧ ((Lit.int .i64 x.f4).wf = true) ∧ ((Lit.int .u8 x.f5).wf = true) ∧ (x.f6.length ≤ maxLen ∧ ∀ y ∈ x.f6, (Lit.int .u8 y).wf = true) ∧ (True)) (fun x => (1) + (1) + (1) + (1) + (1) + (1) + (x.f6.length + 1) + (1) + 1) := by
 intro H enc w fuel cs x h
 obtain ⟨xs, n, _, rfl, hl, hlen, hf⟩ := DataW.trod_struct Tryz.underlying31 h
 rw [show Tryz.prog.cellsOf 31 = 8 from by kernel_rfl] at hl
 have hlen' : xs.length = 8 := hlen
 obtain ⟨c0, c1, c2, c3, c4, c5, c6, c7, rfl⟩ : ∃ c0 c1 c2 c3 c4 c5 c6 c7, cs = [c0, c1, c2, c3, c4, c5, c6, c7] := by
  match cs, hl with
  | [c0, c1, c2, c3, c4, c5, c6, c7], _ => exact ⟨c0, c1, c2, c3, c4, c5, c6, c7, rfl⟩
 obtain ⟨y0, y1, y2, y3, y4, y5, y6, y7, rfl⟩ : ∃ y0 y1 y2 y3 y4 y5 y6 y7, xs = [y0, y1, y2, y3, y4, y5, y6, y7] := by
  match xs, hlen' with
  | [y0, y1, y2, y3, y4, y5, y6, y7], _ => exact ⟨y0, y1, y2, y3, y4, y5, y6, y7, rfl⟩
 have e0 : DataW.trod enc Tryz.prog w 0 (fun _ => true) true n 3 (([c0, c1, c2, c3, c4, c5, c6, c7].drop 0).take (Tryz.prog.cellsOf 3)) = [y0, y1, y2, y3, y4, y5, y6, y7][0]? := hf 0 _ rfl
 rw [show Tryz.prog.cellsOf 3 = 1 from by kernel_rfl] at e0
 replace e0 : DataW.trod enc Tryz.prog w 0 (fun _ => true) true n 3 [c0] = some y0 := e0
 obtain ⟨v0, K0, w0, u0⟩ := (opens_int Tryz.underlying3) H enc w n _ _ e0
 have e1 : DataW.trod enc Tryz.prog w 0 (fun _ => true) true n 3 (([c0, c1, c2, c3, c4, c5, c6, c7].drop 1).take (Tryz.prog.cellsOf 3)) = [y0, y1, y2, y3, y4, y5, y6, y7][1]? := hf 1 _ rfl
 rw [show Tryz.prog.cellsOf 3 = 1 from by kernel_rfl] at e1
 replace e1 : DataW.trod enc Tryz.prog w 0 (fun _ => true) true n 3 [c1] = some y1 := e1
 obtain ⟨v1, K1, w1, u1⟩ := (opens_int Tryz.underlying3) H enc w n _ _ e1
 have e2 : DataW.trod enc Tryz.prog w 0 (fun _ => true) true n 3 (([c0, c1, c2, c3, c4, c5, c6, c7].drop 2).take (Tryz.prog.cellsOf 3)) = [y0, y1, y2, y3, y4, y5, y6, y7][2]? := hf 2 _ rfl
 rw [show Tryz.prog.cellsOf 3 = 1 from by kernel_rfl] at e2
 replace e2 : DataW.trod enc Tryz.prog w 0 (fun _ => true) true n 3 [c2] = some y2 := e2
 obtain ⟨v2, K2, w2, u2⟩ := (opens_int Tryz.underlying3) H enc w n _ _ e2
 have e3 : DataW.trod enc Tryz.prog w 0 (fun _ => true) true n 3 (([c0, c1, c2, c3, c4, c5, c6, c7].drop 3).take (Tryz.prog.cellsOf 3)) = [y0, y1, y2, y3, y4, y5, y6, y7][3]? := hf 3 _ rfl
 rw [show Tryz.prog.cellsOf 3 = 1 from by kernel_rfl] at e3
 replace e3 : DataW.trod enc Tryz.prog w 0 (fun _ => true) true n 3 [c3] = some y3 := e3
 obtain ⟨v3, K3, w3, u3⟩ := (opens_int Tryz.underlying3) H enc w n _ _ e3
 have e4 : DataW.trod enc Tryz.prog w 0 (fun _ => true) true n 3 (([c0, c1, c2, c3, c4, c5, c6, c7].drop 4).take (Tryz.prog.cellsOf 3)) = [y0, y1, y2, y3, y4, y5, y6, y7][4]? := hf 4 _ rfl
 rw [show Tryz.prog.cellsOf 3 = 1 from by kernel_rfl] at e4
 replace e4 : DataW.trod enc Tryz.prog w 0 (fun _ => true) true n 3 [c4] = some y4 := e4
 obtain ⟨v4, K4, w4, u4⟩ := (opens_int Tryz.underlying3) H enc w n _ _ e4
 have e5 : DataW.trod enc Tryz.prog w 0 (fun _ => true) true n 5 (([c0, c1, c2, c3, c4, c5, c6, c7].drop 5).take (Tryz.prog.cellsOf 5)) = [y0, y1, y2, y3, y4, y5, y6, y7][5]? := hf 5 _ rfl
 rw [show Tryz.prog.cellsOf 5 = 1 from by kernel_rfl] at e5
 replace e5 : DataW.trod enc Tryz.prog w 0 (fun _ => true) true n 5 [c5] = some y5 := e5
 obtain ⟨v5, K5, w5, u5⟩ := (opens_int Tryz.underlying5) H enc w n _ _ e5
 have e6 : DataW.trod enc Tryz.prog w 0 (fun _ => true) true n 29 (([c0, c1, c2, c3, c4, c5, c6, c7].drop 6).take (Tryz.prog.cellsOf 29)) = [y0, y1, y2, y3, y4, y5, y6, y7][6]? := hf 6 _ rfl
 rw [show Tryz.prog.cellsOf 29 = 1 from by kernel_rfl] at e6
 replace e6 : DataW.trod enc Tryz.prog w 0 (fun _ => true) true n 29 [c6] = some y6 := e6
 obtain ⟨v6, K6, w6, u6⟩ := (opens_slice1 Tryz.underlying29 (by kernel_rfl) (opens_int Tryz.underlying5)) H enc w n _ _ e6
 have e7 : DataW.trod enc Tryz.prog w 0 (fun _ => true) true n 4 (([c0, c1, c2, c3, c4, c5, c6, c7].drop 7).take (Tryz.prog.cellsOf 4)) = [y0, y1, y2, y3, y4, y5, y6, y7][7]? := hf 7 _ rfl
 rw [show Tryz.prog.cellsOf 4 = 1 from by kernel_rfl] at e7
 replace e7 : DataW.trod enc Tryz.prog w 0 (fun _ => true) true n 4 [c7] = some y7 := e7
 obtain ⟨v7, K7, w7, u7⟩ := (opens_bool Tryz.underlying4) H enc w n _ _ e7
 replace u0 : 1 ≤ Rows.uptoBulk y0.1 := u0
 replace u1 : 1 ≤ Rows.uptoBulk y1.1 := u1
 replace u2 : 1 ≤ Rows.uptoBulk y2.1 := u2
 replace u3 : 1 ≤ Rows.uptoBulk y3.1 := u3
 replace u4 : 1 ≤ Rows.uptoBulk y4.1 := u4
 replace u5 : 1 ≤ Rows.uptoBulk y5.1 := u5
 replace u6 : v6.length + 1 ≤ Rows.uptoBulk y6.1 := u6
 replace u7 : 1 ≤ Rows.uptoBulk y7.1 := u7
 refine ⟨⟨v0, v1, v2, v3, v4, v5, v6, v7⟩, ⟨[c0], [c1, c2, c3, c4, c5, c6, c7], rfl, K0, ⟨[c1], [c2, c3, c4, c5, c6, c7], rfl, K1, ⟨[c2], [c3, c4, c5, c6, c7], rfl, K2, ⟨[c3], [c4, c5, c6, c7], rfl, K3, ⟨[c4], [c5, c6, c7], rfl, K4, ⟨[c5], [c6, c7], rfl, K5, ⟨[c6], [c7], rfl, K6, K7⟩⟩⟩⟩⟩⟩⟩, ⟨w0, w1, w2, w3, w4, w5, w6, w7⟩, ?_⟩
 simp only [List.map_cons, List.map_nil, Rows.uptoBulk, Rows.uptoBulkAll]
 omega
set_option maxRecDepth 100000 in
theorem lifted (os : Os) (started : os.Started) (H : Type) (enc : TypeId × Value → H) :
  ReturnsInHanded {} Tryz.checked os 6 .any (Rows.connNobodySpec.pre6 enc Tryz.prog Tryz.f6 Rows.connNobodyRow.domain false) (Rows.connNobodySpec.post enc Tryz.prog Tryz.f6 false true false false) := by
 refine returnsInHanded_of_change_sized (C := Tryz.checked) own started (by kernel_rfl) Tryz.func6
  (ChangeSpec.witness6 (enc := enc) (C := Tryz.checked) false ⟨#[], #[.agg #[.int .i64 0, .int .i64 0, .int .i64 0, .int .i64 0, .int .i64 0, .int .u8 0, .slice none 0 0, .bool false]], []⟩ 8 (by kernel_rfl) (by kernel_rfl) (by kernel_rfl) (by kernel_rfl)) ?_
 intro W base args ds gs before hval0 hW hcnd hsz0 _
 have hsz : (DataW.weightsEach Tryz.prog (Tryz.f6.params.toList ++ Rows.connNobodySpec.plain.varTypes Tryz.prog) (ds ++ gs)).all (· ≤ reachBytes) = true := hsz0
 have hval : ∀ (j : Nat) t v, Tryz.f6.params[j]? = some t → args[j]? = some v → Value.okWide Tryz.prog W .any base t v := hval0
 have hW' := hW
 obtain ⟨p, q, hA0, hV, rfl, hfz, hnd⟩ := hW
 have hA : DataW.TrodAll enc Tryz.prog W 0 (fun _ => true) true Tryz.f6.params.toList args.toList ds p := hA0
 rw [Tryz.params6] at hA hval hsz
 obtain ⟨v0, vs0, d0, ds0, p0, q0, hargs, rfl, rfl, h0, r0⟩ := trodAll_cons hA
 obtain ⟨rfl, rfl, rfl⟩ := trodAll_nil r0
 obtain rfl : args = #[v0] := by cases args; simp_all
 obtain ⟨rfl, rfl⟩ := trodVars_none hV
 have k0 := h0
 have lt0 : ∀ x ∈ p0, x.block < W.heap.size := by obtain ⟨m, hm⟩ := k0; exact DataW.trod_lt m _ _ _ hm
 obtain ⟨b0, cs0, rfl, K0, w0, u0⟩ := struct_cells opens_T31 Tryz.underlying31 (hval 0 31 v0 rfl rfl) h0
 obtain ⟨A0_6, c0_6, ecs0, hc0_6, hr0_6⟩ := k31_open K0
 obtain rfl : cs0 = #[.int .i64 b0.f0, .int .i64 b0.f1, .int .i64 b0.f2, .int .i64 b0.f3, .int .i64 b0.f4, .int .u8 b0.f5, .slice A0_6 b0.f6.length c0_6, .bool b0.f7] := Array.ext' ecs0
 clear hA0 hval0 hsz0 hsz
 have hk := Pure.ConnNobody b0.f0 b0.f1 b0.f2 b0.f3 b0.f4 b0.f5 b0.f6 b0.f7 w0.1 w0.2.1 w0.2.2.1 w0.2.2.2.1 w0.2.2.2.2.1 w0.2.2.2.2.2.1 w0.2.2.2.2.2.2.1.1 w0.2.2.2.2.2.2.1.2
 refine (turnbucklelaw10_ConnNobody.calls b0.f0 b0.f1 b0.f2 b0.f3 b0.f4 b0.f5 A0_6 c0_6 b0.f6 b0.f7 true W hr0_6 hc0_6 hk).mono fun e W' ⟨he, bel0⟩ => ?_
 have bel : Below W.heap.size W W' := bel0
 subst he
 exact ⟨_, rfl, _, _, _, [], _, [], hW', trodAll_mk1 (shut_bool Tryz.underlying4 _), (trodAll_cons_mk (Below.trod laidOut (by kernel_rfl) (of_decide_eq_true (by kernel_rfl)) k0 bel lt0) trodAll_mk0), rfl, bel.frame _, fun h => by cases h⟩
theorem over : Rows.connNobodyRow.holds Tryz.pinned (OpenSpec.ofChange Rows.connNobodySpec) :=
 OpenClaim.holds_of_wide 6 Tryz.f6 rfl rfl rfl rfl rfl rfl rfl ⟨rfl, rfl, rfl, rfl, rfl⟩ rfl rfl rfl rfl rfl (by kernel_rfl) Tryz.func6 (by kernel_rfl)
  (of_decide_eq_true (by kernel_rfl)) (by unfold Func.isWrapper; first | (rw [if_pos (by decide +kernel)]; kernel_rfl) | (rw [if_neg (by decide +kernel)]; exact ⟨rfl, rfl⟩))
  (fun os started H enc _ => lifted os started H enc)
theorem proved : Rows.ConnNobodySaid := over
#print axioms proved
end Go.Proofs.YtcbpgbfbffnogaaGreat.connNobody
namespace Go.Proofs.YtcbpgbfbffnogaaGreat
theorem connNobody_holds : Rows.ConnNobodySaid := connNobody.proved
end Go.Proofs.YtcbpgbfbffnogaaGreat
