/- For every input the law TagTurned answers true, and every argument reads behind the call as before: out of its plain statement (the text YthenkaklhaehbaaPureTagTurned) and the walk of the call; no condition but what the row says. -/
import Derived.Test.YthenkaklhaehbaaRows
import Derived.Test.YthenkaklhaehbaaPAllx17
import Derived.Test.YthenkaklhaehbaaPureTagTurned
import Derived.Test.YthenkaklhaehbaaOpens
import Derived.WalkKit
import Derived.ProofKit
import Derived.OpenShut
import Derived.ShutString
import Derived.ChangeOld
import Derived.Below
import Derived.SizedLaws
namespace Go.Proofs.Ythenkaklhaehbaa.tagTurned
open Go.ChangeShapes Go.WideShapes Go.ChangeAt Go.RowKit Go.Proofs.YthenkaklhaehbaaW.Opens Go.Proofs.Ythenkaklhaehbaa.PAll Go.Proofs.YthenkaklhaehbaaW.PrintWords
open Go.ChangeMaps (open_string shut_string)
set_option linter.unusedVariables false
theorem own : ownKnob Try.prog.godebug = none := by kernel_rfl
theorem laidOut : laidOutB Try.prog = true := by kernel_rfl
theorem opens_T28 : Opens Try.prog 28 k28 (fun x => ((Lit.int .i64 x.f0).wf = true) ∧ ((Lit.int .u8 x.f1).wf = true)) (fun x => (1) + (1) + 1) := by
  intro H enc w fuel cs x h
  obtain ⟨xs, n, _, rfl, hl, hlen, hf⟩ := DataW.trod_struct Try.underlying28 h
  rw [show Try.prog.cellsOf 28 = 2 from by kernel_rfl] at hl
  have hlen' : xs.length = 2 := hlen
  obtain ⟨c0, c1, rfl⟩ : ∃ c0 c1, cs = [c0, c1] := by
    match cs, hl with
    | [c0, c1], _ => exact ⟨c0, c1, rfl⟩
  obtain ⟨y0, y1, rfl⟩ : ∃ y0 y1, xs = [y0, y1] := by
    match xs, hlen' with
    | [y0, y1], _ => exact ⟨y0, y1, rfl⟩
  have e0 : DataW.trod enc Try.prog w 0 (fun _ => true) true n 3 (([c0, c1].drop 0).take (Try.prog.cellsOf 3)) = [y0, y1][0]? := hf 0 _ rfl
  rw [show Try.prog.cellsOf 3 = 1 from by kernel_rfl] at e0
  replace e0 : DataW.trod enc Try.prog w 0 (fun _ => true) true n 3 [c0] = some y0 := e0
  obtain ⟨v0, K0, w0, u0⟩ := (opens_int Try.underlying3) H enc w n _ _ e0
  have e1 : DataW.trod enc Try.prog w 0 (fun _ => true) true n 5 (([c0, c1].drop 1).take (Try.prog.cellsOf 5)) = [y0, y1][1]? := hf 1 _ rfl
  rw [show Try.prog.cellsOf 5 = 1 from by kernel_rfl] at e1
  replace e1 : DataW.trod enc Try.prog w 0 (fun _ => true) true n 5 [c1] = some y1 := e1
  obtain ⟨v1, K1, w1, u1⟩ := (opens_int Try.underlying5) H enc w n _ _ e1
  replace u0 : 1 ≤ Rows.uptoBulk y0.1 := u0
  replace u1 : 1 ≤ Rows.uptoBulk y1.1 := u1
  refine ⟨⟨v0, v1⟩, ⟨[c0], [c1], rfl, K0, K1⟩, ⟨w0, w1⟩, ?_⟩
  simp only [List.map_cons, List.map_nil, Rows.uptoBulk, Rows.uptoBulkAll]
  omega
set_option maxRecDepth 100000 in
theorem lifted (os : Os) (started : os.Started) (H : Type) (enc : TypeId × Value → H) :
    ReturnsInHanded {} Try.checked os 7 .any (Rows.tagTurnedSpec.pre6 enc Try.prog Try.f7 Rows.tagTurnedRow.domain false) (Rows.tagTurnedSpec.post enc Try.prog Try.f7 false true false false) := by
  refine returnsInHanded_of_change_sized (C := Try.checked) own started (by kernel_rfl) Try.func7
    (ChangeSpec.witness6 (enc := enc) (C := Try.checked) false ⟨#[], #[.int .u64 0, .slice none 0 0, .agg #[.int .i64 0, .int .u8 0]], []⟩ 8 (by kernel_rfl) (by kernel_rfl) (by kernel_rfl) (by kernel_rfl)) ?_
  intro W base args ds gs before hval0 hW hcnd hsz0 _
  have hsz : (DataW.weightsEach Try.prog (Try.f7.params.toList ++ Rows.tagTurnedSpec.plain.varTypes Try.prog) (ds ++ gs)).all (· ≤ reachBytes) = true := hsz0
  have hval : ∀ (j : Nat) t v, Try.f7.params[j]? = some t → args[j]? = some v → Value.okWide Try.prog W .any base t v := hval0
  have hW' := hW
  obtain ⟨p, q, hA0, hV, rfl, hfz, hnd⟩ := hW
  have hA : DataW.TrodAll enc Try.prog W 0 (fun _ => true) true Try.f7.params.toList args.toList ds p := hA0
  rw [Try.params7] at hA hval hsz
  obtain ⟨v0, vs0, d0, ds0, p0, q0, hargs, rfl, rfl, h0, r0⟩ := trodAll_cons hA
  obtain ⟨v1, vs1, d1, ds1, p1, q1, rfl, rfl, rfl, h1, r1⟩ := trodAll_cons r0
  obtain ⟨v2, vs2, d2, ds2, p2, q2, rfl, rfl, rfl, h2, r2⟩ := trodAll_cons r1
  obtain ⟨rfl, rfl, rfl⟩ := trodAll_nil r2
  obtain rfl : args = #[v0, v1, v2] := by cases args; simp_all
  obtain ⟨rfl, rfl⟩ := trodVars_none hV
  obtain ⟨a0, rfl, rfl, rfl, w0⟩ := open_int Try.underlying22 (hval 0 22 v0 rfl rfl) h0
  have k1 := h1
  have lt1 : ∀ x ∈ p1, x.block < W.heap.size := by obtain ⟨m, hm⟩ := k1; exact DataW.trod_lt m _ _ _ hm
  obtain ⟨A1, len1, c1, rfl⟩ := okWide_slice Try.underlying23 (hval 1 23 v1 rfl rfl)
  have y1 : len1 * 1 ≤ 140737488351232 := sized_any hsz (j := 1) (t := 23) rfl rfl Try.underlying23 (by kernel_rfl) h1
  obtain ⟨l1, rfl, hc1, hr1, w1, u1⟩ := slice_cells (opens_slice1 Try.underlying23 (by kernel_rfl) (opens_int Try.underlying5)) h1
  have k2 := h2
  have lt2 : ∀ x ∈ p2, x.block < W.heap.size := by obtain ⟨m, hm⟩ := k2; exact DataW.trod_lt m _ _ _ hm
  obtain ⟨b2, cs2, rfl, K2, w2, u2⟩ := struct_cells opens_T28 Try.underlying28 (hval 2 28 v2 rfl rfl) h2
  obtain rfl : cs2 = #[.int .i64 b2.f0, .int .u8 b2.f1] := Array.ext' (k28_open K2)
  clear hA0 hval0 hsz0 hsz
  obtain ⟨k, hk⟩ := Pure.TagTurned a0 l1 b2.f0 b2.f1 w0 w1.1 y1 w1.2 w2.1 w2.2
  refine (turnbucklelaw02_TagTurned.calls k a0 A1 c1 l1 b2.f0 b2.f1 true W hr1 hc1 hk).mono fun e W' ⟨he, bel0⟩ => ?_
  have bel : Below W.heap.size W W' := bel0
  subst he
  exact ⟨_, rfl, _, _, _, [], _, [], hW', trodAll_mk1 (shut_bool Try.underlying4 _), (trodAll_cons_mk (shut_int Try.underlying22 w0) (trodAll_cons_mk (Below.trod laidOut (by kernel_rfl) (of_decide_eq_true (by kernel_rfl)) k1 bel lt1) (trodAll_cons_mk (Below.trod laidOut (by kernel_rfl) (of_decide_eq_true (by kernel_rfl)) k2 bel lt2) trodAll_mk0))), rfl, bel.frame _, fun h => by cases h⟩
theorem over : Rows.tagTurnedRow.holds Try.pinned (OpenSpec.ofChange Rows.tagTurnedSpec) :=
  OpenClaim.holds_of_wide 7 Try.f7 rfl rfl rfl rfl rfl rfl rfl ⟨rfl, rfl, rfl, rfl, rfl⟩ rfl rfl rfl rfl rfl (by kernel_rfl) Try.func7 (by kernel_rfl)
    (of_decide_eq_true (by kernel_rfl)) (by unfold Func.isWrapper; first | (rw [if_pos (by decide +kernel)]; kernel_rfl) | (rw [if_neg (by decide +kernel)]; exact ⟨rfl, rfl⟩))
    (fun os started H enc _ => lifted os started H enc)
theorem proved : Rows.TagTurnedSaid := over
#print axioms proved
end Go.Proofs.Ythenkaklhaehbaa.tagTurned
namespace Go.Proofs.Ythenkaklhaehbaa
/-- The row, under a short name, for the claim. -/
theorem tagTurned_holds : Rows.TagTurnedSaid := tagTurned.proved
end Go.Proofs.Ythenkaklhaehbaa
