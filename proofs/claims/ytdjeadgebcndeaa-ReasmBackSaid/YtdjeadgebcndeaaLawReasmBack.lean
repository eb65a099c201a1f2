/- For every input the law ReasmBack answers true, and every argument reads behind the call as before: out of its plain statement (the text YtdjeadgebcndeaaPureReasmBack) and the walk of the call; no condition but what the row says. -/
import Derived.Test.YtdjeadgebcndeaaRows
import Derived.Test.YtdjeadgebcndeaaPBckx2
import Derived.Test.YtdjeadgebcndeaaPureReasmBack
import Derived.Test.YtdjeadgebcndeaaOpens
import Derived.WalkKit
import Derived.ProofKit
import Derived.OpenShut
import Derived.ShutString
import Derived.ChangeOld
import Derived.Below
import Derived.SizedLaws
namespace Go.Proofs.Ytdjeadgebcndeaa.reasmBack
open Go.ChangeShapes Go.WideShapes Go.ChangeAt Go.RowKit Go.Proofs.YtdjeadgebcndeaaW.Opens Go.Proofs.Ytdjeadgebcndeaa.PBck Go.Proofs.YtdjeadgebcndeaaW.PrintWords
open Go.ChangeMaps (open_string shut_string)
set_option linter.unusedVariables false
theorem own : ownKnob Try.prog.godebug = none := by kernel_rfl
theorem laidOut : laidOutB Try.prog = true := by kernel_rfl
theorem opens_T30 : Opens Try.prog 30 k30 (fun x => ((Lit.int .u8 x.f0).wf = true) ∧ ((Lit.int .u8 x.f1).wf = true)) (fun x => (1) + (1) + 1) := by
  intro H enc w fuel cs x h
  obtain ⟨xs, n, _, rfl, hl, hlen, hf⟩ := DataW.trod_struct Try.underlying30 h
  rw [show Try.prog.cellsOf 30 = 2 from by kernel_rfl] at hl
  have hlen' : xs.length = 2 := hlen
  obtain ⟨c0, c1, rfl⟩ : ∃ c0 c1, cs = [c0, c1] := by
    match cs, hl with
    | [c0, c1], _ => exact ⟨c0, c1, rfl⟩
  obtain ⟨y0, y1, rfl⟩ : ∃ y0 y1, xs = [y0, y1] := by
    match xs, hlen' with
    | [y0, y1], _ => exact ⟨y0, y1, rfl⟩
  have e0 : DataW.trod enc Try.prog w 0 (fun _ => true) true n 5 (([c0, c1].drop 0).take (Try.prog.cellsOf 5)) = [y0, y1][0]? := hf 0 _ rfl
  rw [show Try.prog.cellsOf 5 = 1 from by kernel_rfl] at e0
  replace e0 : DataW.trod enc Try.prog w 0 (fun _ => true) true n 5 [c0] = some y0 := e0
  obtain ⟨v0, K0, w0, u0⟩ := (opens_int Try.underlying5) H enc w n _ _ e0
  have e1 : DataW.trod enc Try.prog w 0 (fun _ => true) true n 5 (([c0, c1].drop 1).take (Try.prog.cellsOf 5)) = [y0, y1][1]? := hf 1 _ rfl
  rw [show Try.prog.cellsOf 5 = 1 from by kernel_rfl] at e1
  replace e1 : DataW.trod enc Try.prog w 0 (fun _ => true) true n 5 [c1] = some y1 := e1
  obtain ⟨v1, K1, w1, u1⟩ := (opens_int Try.underlying5) H enc w n _ _ e1
  replace u0 : 1 ≤ Rows.uptoBulk y0.1 := u0
  replace u1 : 1 ≤ Rows.uptoBulk y1.1 := u1
  refine ⟨⟨v0, v1⟩, ⟨[c0], [c1], rfl, K0, K1⟩, ⟨w0, w1⟩, ?_⟩
  simp only [List.map_cons, List.map_nil, Rows.uptoBulk, Rows.uptoBulkAll]
  omega
set_option maxRecDepth 100000 in
theorem lifted (os : Os) (started : os.Started) (H : Type) (enc : TypeId × Value → H) :
    ReturnsInHanded {} Try.checked os 3 .any (Rows.reasmBackSpec.pre6 enc Try.prog Try.f3 Rows.reasmBackRow.domain false) (Rows.reasmBackSpec.post enc Try.prog Try.f3 false true false false) := by
  refine returnsInHanded_of_change_sized (C := Try.checked) own started (by kernel_rfl) Try.func3
    (ChangeSpec.witness6 (enc := enc) (C := Try.checked) false ⟨#[], #[.slice none 0 0, .slice none 0 0, .slice none 0 0], []⟩ 8 (by kernel_rfl) (by kernel_rfl) (by kernel_rfl) (by kernel_rfl)) ?_
  intro W base args ds gs before hval0 hW hcnd hsz0 _
  have hsz : (DataW.weightsEach Try.prog (Try.f3.params.toList ++ Rows.reasmBackSpec.plain.varTypes Try.prog) (ds ++ gs)).all (· ≤ reachBytes) = true := hsz0
  have hval : ∀ (j : Nat) t v, Try.f3.params[j]? = some t → args[j]? = some v → Value.okWide Try.prog W .any base t v := hval0
  have hW' := hW
  obtain ⟨p, q, hA0, hV, rfl, hfz, hnd⟩ := hW
  have hA : DataW.TrodAll enc Try.prog W 0 (fun _ => true) true Try.f3.params.toList args.toList ds p := hA0
  rw [Try.params3] at hA hval hsz
  obtain ⟨v0, vs0, d0, ds0, p0, q0, hargs, rfl, rfl, h0, r0⟩ := trodAll_cons hA
  obtain ⟨v1, vs1, d1, ds1, p1, q1, rfl, rfl, rfl, h1, r1⟩ := trodAll_cons r0
  obtain ⟨v2, vs2, d2, ds2, p2, q2, rfl, rfl, rfl, h2, r2⟩ := trodAll_cons r1
  obtain ⟨rfl, rfl, rfl⟩ := trodAll_nil r2
  obtain rfl : args = #[v0, v1, v2] := by cases args; simp_all
  obtain ⟨rfl, rfl⟩ := trodVars_none hV
  have k0 := h0
  have lt0 : ∀ x ∈ p0, x.block < W.heap.size := by obtain ⟨m, hm⟩ := k0; exact DataW.trod_lt m _ _ _ hm
  obtain ⟨A0, len0, c0, rfl⟩ := okWide_slice Try.underlying22 (hval 0 22 v0 rfl rfl)
  have y0 : len0 * 1 ≤ 140737488351232 := sized_any hsz (j := 0) (t := 22) rfl rfl Try.underlying22 (by kernel_rfl) h0
  obtain ⟨l0, rfl, hc0, hr0, w0, u0⟩ := slice_cells (opens_slice1 Try.underlying22 (by kernel_rfl) (opens_int Try.underlying5)) h0
  have k1 := h1
  have lt1 : ∀ x ∈ p1, x.block < W.heap.size := by obtain ⟨m, hm⟩ := k1; exact DataW.trod_lt m _ _ _ hm
  obtain ⟨A1, len1, c1, rfl⟩ := okWide_slice Try.underlying23 (hval 1 23 v1 rfl rfl)
  have y1 : len1 * 2 ≤ 140737488351232 := sized_any hsz (j := 1) (t := 23) rfl rfl Try.underlying23 (by kernel_rfl) h1
  obtain ⟨l1, rfl, hc1, hr1, w1, u1⟩ := slice_cells (opens_slice Try.underlying23 (by kernel_rfl) opens_T30) h1
  have k2 := h2
  have lt2 : ∀ x ∈ p2, x.block < W.heap.size := by obtain ⟨m, hm⟩ := k2; exact DataW.trod_lt m _ _ _ hm
  obtain ⟨A2, len2, c2, rfl⟩ := okWide_slice Try.underlying22 (hval 2 22 v2 rfl rfl)
  have y2 : len2 * 1 ≤ 140737488351232 := sized_any hsz (j := 2) (t := 22) rfl rfl Try.underlying22 (by kernel_rfl) h2
  obtain ⟨l2, rfl, hc2, hr2, w2, u2⟩ := slice_cells (opens_slice1 Try.underlying22 (by kernel_rfl) (opens_int Try.underlying5)) h2
  clear hA0 hval0 hsz0 hsz
  have hk := Pure.ReasmBack l0 l1 l2 w0.1 y0 w0.2 w1.1 y1 w1.2 w2.1 y2 w2.2
  refine (turnbucklelaw09_ReasmBack.calls A0 c0 l0 A1 c1 l1 A2 c2 l2 true W hr0 hc0 hr1 hc1 hr2 hc2 hk).mono fun e W' ⟨he, bel0⟩ => ?_
  have bel : Below W.heap.size W W' := bel0
  subst he
  exact ⟨_, rfl, _, _, _, [], _, [], hW', trodAll_mk1 (shut_bool Try.underlying4 _), (trodAll_cons_mk (Below.trod laidOut (by kernel_rfl) (of_decide_eq_true (by kernel_rfl)) k0 bel lt0) (trodAll_cons_mk (Below.trod laidOut (by kernel_rfl) (of_decide_eq_true (by kernel_rfl)) k1 bel lt1) (trodAll_cons_mk (Below.trod laidOut (by kernel_rfl) (of_decide_eq_true (by kernel_rfl)) k2 bel lt2) trodAll_mk0))), rfl, bel.frame _, fun h => by cases h⟩
theorem over : Rows.reasmBackRow.holds Try.pinned (OpenSpec.ofChange Rows.reasmBackSpec) :=
  OpenClaim.holds_of_wide 3 Try.f3 rfl rfl rfl rfl rfl rfl rfl ⟨rfl, rfl, rfl, rfl, rfl⟩ rfl rfl rfl rfl rfl (by kernel_rfl) Try.func3 (by kernel_rfl)
    (of_decide_eq_true (by kernel_rfl)) (by unfold Func.isWrapper; first | (rw [if_pos (by decide +kernel)]; kernel_rfl) | (rw [if_neg (by decide +kernel)]; exact ⟨rfl, rfl⟩))
    (fun os started H enc _ => lifted os started H enc)
theorem proved : Rows.ReasmBackSaid := over
#print axioms proved
end Go.Proofs.Ytdjeadgebcndeaa.reasmBack
namespace Go.Proofs.Ytdjeadgebcndeaa
/-- The row, under a short name, for the claim. -/
theorem reasmBack_holds : Rows.ReasmBackSaid := reasmBack.proved
end Go.Proofs.Ytdjeadgebcndeaa
