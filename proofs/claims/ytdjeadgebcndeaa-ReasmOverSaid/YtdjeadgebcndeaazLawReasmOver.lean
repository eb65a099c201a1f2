import Derived.Test.YtdjeadgebcndeaaRows
import Derived.Test.YtdjeadgebcndeaazPOvrx2
import Derived.Test.YtdjeadgebcndeaazPureReasmOver
import Derived.Test.YtdjeadgebcndeaazOpens
import Derived.WalkKit
import Derived.ProofKit
import Derived.OpenShut
import Derived.ShutString
import Derived.ChangeOld
import Derived.Below
import Derived.SizedLaws
namespace Go.Proofs.Ytdjeadgebcndeaa.reasmOver
open Go.ChangeShapes Go.WideShapes Go.ChangeAt Go.RowKit Go.Proofs.YtdjeadgebcndeaaW.Opens Go.Proofs.Ytdjeadgebcndeaa.POvr Go.Proofs.YtdjeadgebcndeaaW.PrintWords
open Go.ChangeMaps (open_string shut_string)
set_option linter.unusedVariables false
theorem own : ownKnob Try.prog.godebug = none := by kernel_rfl
theorem laidOut : laidOutB Try.prog = true := by kernel_rfl
theorem opens_T37 : Opens Try.prog 37 k37 (fun x => ((Lit.int .u8 x.f0).wf = true) ∧ ((Lit.int .i64 x.f1).wf = true) ∧ (x.f2.length ≤ maxLen ∧ ∀ y ∈ x.f2, (Lit.int .u8 y).wf = true) ∧ (True)) (fun x => (1) + (1) + (x.f2.length + 1) + (1) + 1) := by
 intro H enc w fuel cs x h
 obtain ⟨xs, n, _, rfl, hl, hlen, hf⟩ := DataW.trod_struct Try.underlying37 h
 rw [show Try.prog.cellsOf 37 = 4 from by kernel_rfl] at hl
 have hlen' : xs.length = 4 := hlen
 obtain ⟨c0, c1, c2, c3, rfl⟩ : ∃ c0 c1 c2 c3, cs = [c0, c1, c2, c3] := by
  match cs, hl with
  | [c0, c1, c2, c3], _ => exact ⟨c0, c1, c2, c3, rfl⟩
 obtain ⟨y0, y1, y2, y3, rfl⟩ : ∃ y0 y1 y2 y3, xs = [y0, y1, y2, y3] := by
  match xs, hlen' with
  | [y0, y1, y2, y3], _ => exact ⟨y0, y1, y2, y3, rfl⟩
 have e0 : DataW.trod enc Try.prog w 0 (fun _ => true) true n 5 (([c0, c1, c2, c3].drop 0).take (Try.prog.cellsOf 5)) = [y0, y1, y2, y3][0]? := hf 0 _ rfl
 rw [show Try.prog.cellsOf 5 = 1 from by kernel_rfl] at e0
 replace e0 : DataW.trod enc Try.prog w 0 (fun _ => true) true n 5 [c0] = some y0 := e0
 obtain ⟨v0, K0, w0, u0⟩ := (opens_int Try.underlying5) H enc w n _ _ e0
 have e1 : DataW.trod enc Try.prog w 0 (fun _ => true) true n 3 (([c0, c1, c2, c3].drop 1).take (Try.prog.cellsOf 3)) = [y0, y1, y2, y3][1]? := hf 1 _ rfl
 rw [show Try.prog.cellsOf 3 = 1 from by kernel_rfl] at e1
 replace e1 : DataW.trod enc Try.prog w 0 (fun _ => true) true n 3 [c1] = some y1 := e1
 obtain ⟨v1, K1, w1, u1⟩ := (opens_int Try.underlying3) H enc w n _ _ e1
 have e2 : DataW.trod enc Try.prog w 0 (fun _ => true) true n 22 (([c0, c1, c2, c3].drop 2).take (Try.prog.cellsOf 22)) = [y0, y1, y2, y3][2]? := hf 2 _ rfl
 rw [show Try.prog.cellsOf 22 = 1 from by kernel_rfl] at e2
 replace e2 : DataW.trod enc Try.prog w 0 (fun _ => true) true n 22 [c2] = some y2 := e2
 obtain ⟨v2, K2, w2, u2⟩ := (opens_slice1 Try.underlying22 (by kernel_rfl) (opens_int Try.underlying5)) H enc w n _ _ e2
 have e3 : DataW.trod enc Try.prog w 0 (fun _ => true) true n 4 (([c0, c1, c2, c3].drop 3).take (Try.prog.cellsOf 4)) = [y0, y1, y2, y3][3]? := hf 3 _ rfl
 rw [show Try.prog.cellsOf 4 = 1 from by kernel_rfl] at e3
 replace e3 : DataW.trod enc Try.prog w 0 (fun _ => true) true n 4 [c3] = some y3 := e3
 obtain ⟨v3, K3, w3, u3⟩ := (opens_bool Try.underlying4) H enc w n _ _ e3
 replace u0 : 1 ≤ Rows.uptoBulk y0.1 := u0
 replace u1 : 1 ≤ Rows.uptoBulk y1.1 := u1
 replace u2 : v2.length + 1 ≤ Rows.uptoBulk y2.1 := u2
 replace u3 : 1 ≤ Rows.uptoBulk y3.1 := u3
 refine ⟨⟨v0, v1, v2, v3⟩, ⟨[c0], [c1, c2, c3], rfl, K0, ⟨[c1], [c2, c3], rfl, K1, ⟨[c2], [c3], rfl, K2, K3⟩⟩⟩, ⟨w0, w1, w2, w3⟩, ?_⟩
 simp only [List.map_cons, List.map_nil, Rows.uptoBulk, Rows.uptoBulkAll]
 omega
set_option maxRecDepth 100000 in
theorem lifted (os : Os) (started : os.Started) (H : Type) (enc : TypeId × Value → H) :
  ReturnsInHanded {} Try.checked os 4 .any (Rows.reasmOverSpec.pre6 enc Try.prog Try.f4 Rows.reasmOverRow.domain false) (Rows.reasmOverSpec.post enc Try.prog Try.f4 false true false false) := by
 refine returnsInHanded_of_change_sized (C := Try.checked) own started (by kernel_rfl) Try.func4
  (ChangeSpec.witness6 (enc := enc) (C := Try.checked) false ⟨#[], #[.int .i64 0, .slice none 0 0], []⟩ 8 (by kernel_rfl) (by kernel_rfl) (by kernel_rfl) (by kernel_rfl)) ?_
 intro W base args ds gs before hval0 hW hcnd hsz0 _
 have hsz : (DataW.weightsEach Try.prog (Try.f4.params.toList ++ Rows.reasmOverSpec.plain.varTypes Try.prog) (ds ++ gs)).all (· ≤ reachBytes) = true := hsz0
 have hval : ∀ (j : Nat) t v, Try.f4.params[j]? = some t → args[j]? = some v → Value.okWide Try.prog W .any base t v := hval0
 have hW' := hW
 obtain ⟨p, q, hA0, hV, rfl, hfz, hnd⟩ := hW
 have hA : DataW.TrodAll enc Try.prog W 0 (fun _ => true) true Try.f4.params.toList args.toList ds p := hA0
 rw [Try.params4] at hA hval hsz
 obtain ⟨v0, vs0, d0, ds0, p0, q0, hargs, rfl, rfl, h0, r0⟩ := trodAll_cons hA
 obtain ⟨v1, vs1, d1, ds1, p1, q1, rfl, rfl, rfl, h1, r1⟩ := trodAll_cons r0
 obtain ⟨rfl, rfl, rfl⟩ := trodAll_nil r1
 obtain rfl : args = #[v0, v1] := by cases args; simp_all
 obtain ⟨rfl, rfl⟩ := trodVars_none hV
 obtain ⟨a0, rfl, rfl, rfl, w0⟩ := open_int Try.underlying3 (hval 0 3 v0 rfl rfl) h0
 have k1 := h1
 have lt1 : ∀ x ∈ p1, x.block < W.heap.size := by obtain ⟨m, hm⟩ := k1; exact DataW.trod_lt m _ _ _ hm
 obtain ⟨A1, len1, c1, rfl⟩ := okWide_slice Try.underlying35 (hval 1 35 v1 rfl rfl)
 have y1 : len1 * 48 ≤ 140737488351232 := sized_any hsz (j := 1) (t := 35) rfl rfl Try.underlying35 (by kernel_rfl) h1
 obtain ⟨l1, rfl, hc1, hr1, w1, u1⟩ := slice_cells (opens_slice Try.underlying35 (by kernel_rfl) opens_T37) h1
 clear hA0 hval0 hsz0 hsz
 have hk := Pure.ReasmOver a0 l1 w0 w1.1 y1 w1.2
 refine (turnbucklelaw09_ReasmOver.calls a0 A1 c1 l1 true W hr1 hc1 hk).mono fun e W' ⟨he, bel0⟩ => ?_
 have bel : Below W.heap.size W W' := bel0
 subst he
 exact ⟨_, rfl, _, _, _, [], _, [], hW', trodAll_mk1 (shut_bool Try.underlying4 _), (trodAll_cons_mk (shut_int Try.underlying3 w0) (trodAll_cons_mk (Below.trod laidOut (by kernel_rfl) (of_decide_eq_true (by kernel_rfl)) k1 bel lt1) trodAll_mk0)), rfl, bel.frame _, fun h => by cases h⟩
theorem over : Rows.reasmOverRow.holds Try.pinned (OpenSpec.ofChange Rows.reasmOverSpec) :=
 OpenClaim.holds_of_wide 4 Try.f4 rfl rfl rfl rfl rfl rfl rfl ⟨rfl, rfl, rfl, rfl, rfl⟩ rfl rfl rfl rfl rfl (by kernel_rfl) Try.func4 (by kernel_rfl)
  (of_decide_eq_true (by kernel_rfl)) (by unfold Func.isWrapper; first | (rw [if_pos (by decide +kernel)]; kernel_rfl) | (rw [if_neg (by decide +kernel)]; exact ⟨rfl, rfl⟩))
  (fun os started H enc _ => lifted os started H enc)
theorem proved : Rows.ReasmOverSaid := over
#print axioms proved
end Go.Proofs.Ytdjeadgebcndeaa.reasmOver
namespace Go.Proofs.Ytdjeadgebcndeaa
theorem reasmOver_holds : Rows.ReasmOverSaid := reasmOver.proved
end Go.Proofs.Ytdjeadgebcndeaa
