import Derived.Test.YtcbpgbfbffnogaaGreatzEy8
namespace Go.Proofs.YtcbpgbfbffnogaaGreatW.Ex
open Go Go.RowKit Go.Proofs.YtcbpgbfbffnogaaGreatW.Rx
set_option linter.unusedVariables false
set_option linter.unusedSimpArgs false
section
variable {P : Program} {T : Tab}
theorem st_nil {m : Nm} {L : Nat → Prop} {w : World} : St m [] L w := ⟨fun i o h => by simp at h, fun i h => by simp at h, fun i j a b h => by simp at h⟩
theorem run_ok (hmix : P.follows .mixedOrders = true) (hlist : ∀ f, T.ext f = 1 → ListRule P f) (hmid : ∀ f, T.ext f = 2 → MidRule P T f) (htrue : ∀ f, T.ext f = 3 → ∀ w, Calls P f #[] w fun e w2 => e = .returned (.bool true) ∧ Below w.heap.size w w2)
  {f : FuncId} {fn : Func} {c : Code} {args : List AV} {n : Nat} {s : HT} {v : Value} (hf : P.funcs[f]? = some fn) (hb : fn.body = some c) (hN : Nat.ble args.length fn.ntmps = true) (hw : AV.wfs (fun _ => false) args = true)
  (h1 : ∀ m, (exec P T m n [] s [] [] (tree P (T.A f) (T.C f) fn args [])).isSome = true)
  (h2 : ∀ m, (exec P T m n [] s [] [] (tree P (T.A f) (T.C f) fn args [])).map (fun q => (q.1.map fun o => (o.1.wf (fun _ => false), o.1.g id), q.2.map Owe.l)) = (exec P T m n [] s [] [] (tree P (T.A f) (T.C f) fn args [])).map (fun q => ([(true, v)], q.2.map (Owe.rt m)))) (w : World) :
  Calls P f (AV.gs id args).toArray w fun e w2 => e = .returned v ∧ Below w.heap.size w w2 := by
 have hwf : ∀ D : Nat → Bool, AV.wfs D args = true := fun D => wfs_mono (fun k hk => by cases hk) args hw
 have hrun : ∀ m, ∃ os ob, exec P T m n [] s [] [] (tree P (T.A f) (T.C f) fn args []) = some (os, ob) ∧ (∀ x ∈ ob, x.ok m) ∧ ∀ o ∈ os, o.1.wf (fun _ => false) = true ∧ o.1.g id = v := by
  intro m
  obtain ⟨⟨os, ob⟩, hx⟩ := Option.isSome_iff_exists.1 (h1 m)
  have h2 := h2 m
  rw [hx] at h2
  simp only [Option.map_some, Option.some.injEq, Prod.mk.injEq] at h2
  refine ⟨os, ob, hx, owes_of h2.2, fun o ho => ?_⟩
  have hm : (o.1.wf (fun _ => false), o.1.g id) ∈ [(true, v)] := by rw [← h2.1]; exact List.mem_map_of_mem (f := fun o : Outc => (o.1.wf (fun _ => false), o.1.g id)) ho
  have := List.mem_singleton.1 hm
  exact ⟨congrArg Prod.fst this, congrArg Prod.snd this⟩
 refine enterT hmix (T.A f) (T.C f) args [] id hf hb hN trivial trivial (hwf _) rfl (fun hF => ?_)
 have hno : ∀ b, ¬ own id ([] : Out) b := fun b ⟨x, hx, _⟩ => by cases hx
 refine exec_ok hmix hlist hmid htrue n (fun _ => False) w 0 ⟨fun i => i, fun _ => 0, fun _ => 0⟩ (fun _ o => o.1.wf (fun _ => false) = true ∧ o.1.g id = v) _ _ ?_ [] s [] _ ⟨fun i => i, fun _ => 0, fun _ => 0⟩ noJ _ w ?_ st_nil ?_ ?_
 ·intro m' o ρ L w' hg g1 g2 _ _ _
  refine ⟨?_, ⟨g2.fine.os, g2.fine.tape, g2.fine.output, g2.fine.size, fun b hb => g2.fine.keep b hb (fun h => h)⟩⟩
  rw [g_congr (D := fun _ => false) (ρ := ρ) (σ := id) (fun k hk => by cases hk) _ hg.1, hg.2]
 ·intro m' _
  obtain ⟨os, ob, hx, ho, hg⟩ := hrun m'
  exact ⟨[], os, ob, hx, ho, hg⟩
 ·exact ⟨Nat.le_refl _, Agree.refl _ _, fun i hi => by simp at hi, ⟨rfl, rfl, rfl, Nat.le_refl _, fun _ _ _ => rfl, fun b hb => absurd hb (hno b)⟩⟩
 ·intro lvl e env' hf'; cases hf'
end
end Go.Proofs.YtcbpgbfbffnogaaGreatW.Ex
