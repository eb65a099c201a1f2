/- For every input the law ReasmNobody answers true, and every argument reads behind the call as before: out of its plain statement (the text YtdjeadgebcndeaaPureReasmNobody) and the walk of the call; no condition but what the row says. -/
import Derived.Test.YtdjeadgebcndeaaRows
import Derived.Test.YtdjeadgebcndeaaPNobx1
import Derived.Test.YtdjeadgebcndeaaPureReasmNobody
import Derived.Test.YtdjeadgebcndeaaOpens
import Derived.WalkKit
import Derived.ProofKit
import Derived.OpenShut
import Derived.ShutString
import Derived.ChangeOld
import Derived.Below
import Derived.SizedLaws
namespace Go.Proofs.Ytdjeadgebcndeaa.reasmNobody
open Go.ChangeShapes Go.WideShapes Go.ChangeAt Go.RowKit Go.Proofs.YtdjeadgebcndeaaW.Opens Go.Proofs.Ytdjeadgebcndeaa.PNob Go.Proofs.YtdjeadgebcndeaaW.PrintWords
open Go.ChangeMaps (open_string shut_string)
set_option linter.unusedVariables false
theorem own : ownKnob Try.prog.godebug = none := by kernel_rfl
theorem laidOut : laidOutB Try.prog = true := by kernel_rfl
theorem opens_T37 : Opens Try.prog 37 k37 (fun x => ((Lit.int .u8 x.f0).wf = true) ∧ ((Lit.int .i64 x.f1).wf = true) ∧ (x.f2.length ≤ maxLen ∧ ∀ y ∈ x.f2, (Lit.int .u8 y).wf = true) ∧ (True)) (fun x => (1) + (1) + (x.f2.length + 1) + (1) + 1) := by
  intro H enc w fuel cs x h
  obtain ⟨xs, n, _, rfl, hl, hlen, hf⟩ := DataW.trod_struct Try.underlying37 h
  rw [show Try.prog.cellsOf 37 = 4 from by kernel_rfl] at hl
  have hlen' : xs.length = 4 := hlen
  obtain ⟨c0, c1, c2, c3, rfl⟩ : ∃ c0 c1 c2 c3, cs = [c0, c1, c2, c3] := by
    match cs, hl with
    | [c0, c1, c2, c3], _ => exact ⟨c0, c1, c2, c3, rfl⟩
  obtain ⟨y0, y1, y2, y3, rfl⟩ : ∃ y0 y1 y2 y3, xs = [y0, y1, y2, y3] := by
    match xs, hlen' with
    | [y0, y1, y2, y3], _ => exact ⟨y0, y1, y2, y3, rfl⟩
  have e0 : DataW.trod enc Try.prog w 0 (fun _ => true) true n 5 (([c0, c1, c2, c3].drop 0).take (Try.prog.cellsOf 5)) = [y0, y1, y2, y3][0]? := hf 0 _ rfl
  rw [show Try.prog.cellsOf 5 = 1 from by kernel_rfl] at e0
  replace e0 : DataW.trod enc Try.prog w 0 (fun _ => true) true n 5 [c0] = some y0 := e0
  obtain ⟨v0, K0, w0, u0⟩ := (opens_int Try.underlying5) H enc w n _ _ e0
  have e1 : DataW.trod enc Try.prog w 0 (fun _ => true) true n 3 (([c0, c1, c2, c3].drop 1).take (Try.prog.cellsOf 3)) = [y0, y1, y2, y3][1]? := hf 1 _ rfl
  rw [show Try.prog.cellsOf 3 = 1 from by kernel_rfl] at e1
  replace e1 : DataW.trod enc Try.prog w 0 (fun _ => true) true n 3 [c1] = some y1 := e1
  obtain ⟨v1, K1, w1, u1⟩ := (opens_int Try.underlying3) H enc w n _ _ e1
  have e2 : DataW.trod enc Try.prog w 0 (fun _ => true) true n 22 (([c0, c1, c2, c3].drop 2).take (Try.prog.cellsOf 22)) = [y0, y1, y2, y3][2]? := hf 2 _ rfl
  rw [show Try.prog.cellsOf 22 = 1 from by kernel_rfl] at e2
  replace e2 : DataW.trod enc Try.prog w 0 (fun _ => true) true n 22 [c2] = some y2 := e2
  obtain ⟨v2, K2, w2, u2⟩ := (opens_slice1 Try.underlying22 (by kernel_rfl) (opens_int Try.underlying5)) H enc w n _ _ e2
  have e3 : DataW.trod enc Try.prog w 0 (fun _ => true) true n 4 (([c0, c1, c2, c3].drop 3).take (Try.prog.cellsOf 4)) = [y0, y1, y2, y3][3]? := hf 3 _ rfl
  rw [show Try.prog.cellsOf 4 = 1 from by kernel_rfl] at e3
  replace e3 : DataW.trod enc Try.prog w 0 (fun _ => true) true n 4 [c3] = some y3 := e3
  obtain ⟨v3, K3, w3, u3⟩ := (opens_bool Try.underlying4) H enc w n _ _ e3
  replace u0 : 1 ≤ Rows.uptoBulk y0.1 := u0
  replace u1 : 1 ≤ Rows.uptoBulk y1.1 := u1
  replace u2 : v2.length + 1 ≤ Rows.uptoBulk y2.1 := u2
  replace u3 : 1 ≤ Rows.uptoBulk y3.1 := u3
  refine ⟨⟨v0, v1, v2, v3⟩, ⟨[c0], [c1, c2, c3], rfl, K0, ⟨[c1], [c2, c3], rfl, K1, ⟨[c2], [c3], rfl, K2, K3⟩⟩⟩, ⟨w0, w1, w2, w3⟩, ?_⟩
  simp only [List.map_cons, List.map_nil, Rows.uptoBulk, Rows.uptoBulkAll]
  omega
set_option maxRecDepth 100000 in
theorem lifted (os : Os) (started : os.Started) (H : Type) (enc : TypeId × Value → H) :
    ReturnsInHanded {} Try.checked os 7 .any (Rows.reasmNobodySpec.pre6 enc Try.prog Try.f7 Rows.reasmNobodyRow.domain false) (Rows.reasmNobodySpec.post enc Try.prog Try.f7 false true false false) := by
  refine returnsInHanded_of_change_sized (C := Try.checked) own started (by kernel_rfl) Try.func7
    (ChangeSpec.witness6 (enc := enc) (C := Try.checked) false ⟨#[], #[.slice none 0 0, .agg #[.int .u8 0, .int .i64 0, .slice none 0 0, .bool false]], []⟩ 8 (by kernel_rfl) (by kernel_rfl) (by kernel_rfl) (by kernel_rfl)) ?_
  intro W base args ds gs before hval0 hW hcnd hsz0 _
  have hsz : (DataW.weightsEach Try.prog (Try.f7.params.toList ++ Rows.reasmNobodySpec.plain.varTypes Try.prog) (ds ++ gs)).all (· ≤ reachBytes) = true := hsz0
  have hval : ∀ (j : Nat) t v, Try.f7.params[j]? = some t → args[j]? = some v → Value.okWide Try.prog W .any base t v := hval0
  have hW' := hW
  obtain ⟨p, q, hA0, hV, rfl, hfz, hnd⟩ := hW
  have hA : DataW.TrodAll enc Try.prog W 0 (fun _ => true) true Try.f7.params.toList args.toList ds p := hA0
  rw [Try.params7] at hA hval hsz
  obtain ⟨v0, vs0, d0, ds0, p0, q0, hargs, rfl, rfl, h0, r0⟩ := trodAll_cons hA
  obtain ⟨v1, vs1, d1, ds1, p1, q1, rfl, rfl, rfl, h1, r1⟩ := trodAll_cons r0
  obtain ⟨rfl, rfl, rfl⟩ := trodAll_nil r1
  obtain rfl : args = #[v0, v1] := by cases args; simp_all
  obtain ⟨rfl, rfl⟩ := trodVars_none hV
  have k0 := h0
  have lt0 : ∀ x ∈ p0, x.block < W.heap.size := by obtain ⟨m, hm⟩ := k0; exact DataW.trod_lt m _ _ _ hm
  obtain ⟨A0, len0, c0, rfl⟩ := okWide_slice Try.underlying22 (hval 0 22 v0 rfl rfl)
  have y0 : len0 * 1 ≤ 140737488351232 := sized_any hsz (j := 0) (t := 22) rfl rfl Try.underlying22 (by kernel_rfl) h0
  obtain ⟨l0, rfl, hc0, hr0, w0, u0⟩ := slice_cells (opens_slice1 Try.underlying22 (by kernel_rfl) (opens_int Try.underlying5)) h0
  have k1 := h1
  have lt1 : ∀ x ∈ p1, x.block < W.heap.size := by obtain ⟨m, hm⟩ := k1; exact DataW.trod_lt m _ _ _ hm
  obtain ⟨b1, cs1, rfl, K1, w1, u1⟩ := struct_cells opens_T37 Try.underlying37 (hval 1 37 v1 rfl rfl) h1
  obtain ⟨A1_2, c1_2, ecs1, hc1_2, hr1_2⟩ := k37_open K1
  obtain rfl : cs1 = #[.int .u8 b1.f0, .int .i64 b1.f1, .slice A1_2 b1.f2.length c1_2, .bool b1.f3] := Array.ext' ecs1
  clear hA0 hval0 hsz0 hsz
  have hk := Pure.ReasmNobody l0 b1.f0 b1.f1 b1.f2 b1.f3 w0.1 y0 w0.2 w1.1 w1.2.1 w1.2.2.1.1 w1.2.2.1.2
  refine (turnbucklelaw09_ReasmNobody.calls A0 c0 l0 b1.f0 b1.f1 A1_2 c1_2 b1.f2 b1.f3 true W hr0 hc0 hr1_2 hc1_2 hk).mono fun e W' ⟨he, bel0⟩ => ?_
  have bel : Below W.heap.size W W' := bel0
  subst he
  exact ⟨_, rfl, _, _, _, [], _, [], hW', trodAll_mk1 (shut_bool Try.underlying4 _), (trodAll_cons_mk (Below.trod laidOut (by kernel_rfl) (of_decide_eq_true (by kernel_rfl)) k0 bel lt0) (trodAll_cons_mk (Below.trod laidOut (by kernel_rfl) (of_decide_eq_true (by kernel_rfl)) k1 bel lt1) trodAll_mk0)), rfl, bel.frame _, fun h => by cases h⟩
theorem over : Rows.reasmNobodyRow.holds Try.pinned (OpenSpec.ofChange Rows.reasmNobodySpec) :=
  OpenClaim.holds_of_wide 7 Try.f7 rfl rfl rfl rfl rfl rfl rfl ⟨rfl, rfl, rfl, rfl, rfl⟩ rfl rfl rfl rfl rfl (by kernel_rfl) Try.func7 (by kernel_rfl)
    (of_decide_eq_true (by kernel_rfl)) (by unfold Func.isWrapper; first | (rw [if_pos (by decide +kernel)]; kernel_rfl) | (rw [if_neg (by decide +kernel)]; exact ⟨rfl, rfl⟩))
    (fun os started H enc _ => lifted os started H enc)
theorem proved : Rows.ReasmNobodySaid := over
#print axioms proved
end Go.Proofs.Ytdjeadgebcndeaa.reasmNobody
namespace Go.Proofs.Ytdjeadgebcndeaa
/-- The row, under a short name, for the claim. -/
theorem reasmNobody_holds : Rows.ReasmNobodySaid := reasmNobody.proved
end Go.Proofs.Ytdjeadgebcndeaa
