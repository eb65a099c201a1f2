import Derived.Test.YtcbpgbfbffnogaaGreatzEz0
import Derived.Test.YtcbpgbfbffnogaaGreatzEx3
import Derived.Test.YtcbpgbfbffnogaaGreatzWWords
import Derived.Test.YtcbpgbfbffnogaaGreatzWMore
import Derived.WalkKit
import Derived.Laws.Pointers
namespace Go.Proofs.YtcbpgbfbffnogaaGreat.X
open Go Go.RowKit Go.Proofs.YtcbpgbfbffnogaaGreatW.Rx Go.Proofs.YtcbpgbfbffnogaaGreatW.Ex Go.Proofs.YtcbpgbfbffnogaaGreatW.PrintWords Go.Proofs.YtcbpgbfbffnogaaGreatW.PrintMore
set_option linter.unusedVariables false
set_option linter.unusedSimpArgs false
set_option maxRecDepth 10000
noncomputable def c121 : Code := match Tryz.f121.body with
 | some (.seq _ y) => y
 | _ => .skip
theorem c121_n (Al Af : Option Addr) : X Tryz.prog ⟨21, 0⟩ noA noC (codeKeys c121) [] (drawX Tryz.prog ⟨21, 0⟩) c121 0 (startX [AV.v (.pointer Al), AV.v (.pointer Af), AV.v .nilIface, AV.v undef, AV.v undef, AV.v .nilIface] 21 []) (fun e _ => endX e) = .done (AV.tup []) [] := by kernel_rfl
set_option maxHeartbeats 2000000 in
theorem catch_n (al af : Addr) (w : World) :
  CallsD Tryz.prog 121 #[.pointer (some al), .pointer (some af)] .returning w fun e u' w' => e = .returned (.tuple #[]) ∧ u' = .returning ∧ Fine (fun _ => False) w (fun _ => False) w' := by
 refine callsD_of_wpS Tryz.func121 rfl fun c₀ cs hu => ?_
 apply wpS_seq
 apply wpS_region
 simp [wpOpsS, go_sem, recoverD, hu, Tryz.ntmps121, Exit.thenS]
 refine wpS_of_wp ?_
 have key := wp_at (P := Tryz.prog) mixed (c := c121) (n := 21) (lo := 0) (w := w) (ds := []) noA noC [AV.v (.pointer (some al)), AV.v (.pointer (some af)), AV.v .nilIface, AV.v undef, AV.v undef, AV.v .nilIface] (R := fun e w' => e = .returned (.tuple #[]) ∧ Fine (fun _ => False) w (fun _ => False) w') rfl rfl (fun hF => by
  rw [c121_n]
  intro ρ L w' _ he _ _
  exact ⟨rfl, (hF.ext he).with (fun b h => h.elim)⟩)
 have et : (#[Value.pointer (some al), Value.pointer (some af)] ++ ((Array.replicate 19 undef).setIfInBounds 3 Value.nilIface).setIfInBounds 0 Value.nilIface) = (AV.gs id [AV.v (.pointer (some al)), AV.v (.pointer (some af)), AV.v .nilIface, AV.v undef, AV.v undef, AV.v .nilIface]).toArray ++ Array.replicate (21 - 6) undef := by kernel_rfl
 rw [et]
 refine wp_mono key ?_
 rintro e a' w' (⟨he, ⟨hd, _⟩, h1, h2⟩ | ⟨ps, rfl, _, h, _⟩)
 ·have hc : c₀ = { c₀ with mode := .returning } := by rw [← hu]
  rcases he with rfl | rfl
  ·exact ⟨hd, .returning, by rw [← hc], .tuple #[], results_none rfl _ _ _, rfl, rfl, h2⟩
  ·exact ⟨hd, .returning, by rw [← hc], .tuple #[], results_none rfl _ _ _, rfl, rfl, h2⟩
 ·cases h
noncomputable def p0 : Code := match Tryz.f86.body with
 | some (.seq x _) => x
 | _ => .skip
noncomputable def p1 : Code := match Tryz.f86.body with
 | some (.seq _ (.seq x _)) => x
 | _ => .skip
noncomputable def p3 : Code := match Tryz.f86.body with
 | some (.seq _ (.seq _ (.seq x _))) => x
 | _ => .skip
theorem f86_body : Tryz.f86.body = some (.seq p0 (.seq p1 (.seq p3 c86))) := by kernel_rfl
theorem u85 : (Tryz.prog.underlying 85).map (·.isRow) = some false := by kernel_rfl
theorem u147 : (Tryz.prog.underlying 147).map (·.isRow) = some true := by kernel_rfl
theorem i147 : (Tryz.prog.info? 147).map (·.size) = some 2 := by kernel_rfl
theorem res86 {tmps : Array Value} {w : World} {al af : Addr} {l a b : Value} (t2 : tmps.getD 2 undef = .pointer (some al)) (t3 : tmps.getD 3 undef = .pointer (some af)) (hl : w.cell? al = some l) (hf : w.rangeAt af.block af.off [a, b]) (hs : af.spot = none) :
  (results Tryz.f86 tmps).run Tryz.prog w = .ok (.tuple #[l, .agg #[a, b]]) w := by
 have e1 : (resV tmps (.cell 2 85)).run Tryz.prog w = .ok l w := by
  obtain ⟨d, hd, hr⟩ : ∃ d, Tryz.prog.underlying 85 = some d ∧ d.isRow = false := by
   have h := u85
   cases hu : Tryz.prog.underlying 85 with
   | none => rw [hu] at h; cases h
   | some d => rw [hu] at h; exact ⟨d, rfl, by simpa using h⟩
  simp [resV, t2, asAddr, loadVar, isAgg_run hd, hr, hl]
 have e2 : (resV tmps (.cell 3 147)).run Tryz.prog w = .ok (.agg #[a, b]) w := by
  obtain ⟨d, hd, hr⟩ : ∃ d, Tryz.prog.underlying 147 = some d ∧ d.isRow = true := by
   have h := u147
   cases hu : Tryz.prog.underlying 147 with
   | none => rw [hu] at h; cases h
   | some d => rw [hu] at h; exact ⟨d, rfl, by simpa using h⟩
  have hrun := run_loadVar_mid (P := Tryz.prog) w af.block af.off 147 _ d hf hd hr (by rw [i147]; rfl)
  simp only [resV, t3, asAddr]
  have ea : af = ⟨af.block, af.off, none⟩ := by cases af; cases hs; rfl
  rw [ea]
  exact hrun
 have er : Tryz.f86.results = #[.cell 2 85, .cell 3 147] := by kernel_rfl
 have e0 : results Tryz.f86 tmps = (do let vs ← Tryz.f86.results.mapM (resV tmps); pure (if h : vs.size = 1 then vs[0] else .tuple vs)) := rfl
 rw [e0, er, Array.mapM_eq_mapM_toList, Sem.run_bind]
 have e3 : ((List.toArray <$> ([ResultVar.cell 2 85, ResultVar.cell 3 147].mapM (resV tmps))) : Sem (Array Value)).run Tryz.prog w = .ok #[l, .agg #[a, b]] w := by
  rw [← bind_pure_comp, Sem.run_bind, List.mapM_cons, Sem.run_bind, e1, Result.andThen_ok, List.mapM_cons]
  simp [Sem.run_bind, e2]
 rw [e3, Result.andThen_ok]
 rfl
theorem dec_args (A0 : Option Addr) (n c0 : Nat) (al af : Addr) : #[Value.slice A0 n c0, undef, Value.pointer (some al), Value.pointer (some af), undef, Value.slice A0 n c0, Value.int IntKind.i64 (n : Int), Value.bool false, undef, Value.func (Fn.func 121) #[] #[Value.pointer (some al), Value.pointer (some af)], undef, undef, undef, undef, undef, undef, undef, undef, undef, undef, undef, undef, undef, undef, undef, undef, undef, undef, undef, undef, undef, undef, undef, undef, undef] = (AV.gs id (args86 A0 n c0 (.v (.pointer (some al))) (.v (.pointer (some af))))).toArray ++ Array.replicate (35 - (args86 A0 n c0 (.v (.pointer (some al))) (.v (.pointer (some af)))).length) undef := by kernel_rfl
theorem dec_slots (A0 : Option Addr) (n c0 : Nat) (al af : Addr) : ((AV.gs id (args86 A0 n c0 (.v (.pointer (some al))) (.v (.pointer (some af))))).toArray ++ Array.replicate (35 - (args86 A0 n c0 (.v (.pointer (some al))) (.v (.pointer (some af)))).length) undef).getD 2 undef = .pointer (some al) ∧ ((AV.gs id (args86 A0 n c0 (.v (.pointer (some al))) (.v (.pointer (some af))))).toArray ++ Array.replicate (35 - (args86 A0 n c0 (.v (.pointer (some al))) (.v (.pointer (some af)))).length) undef).getD 3 undef = .pointer (some af) := by
 rw [← dec_args]
 exact ⟨rfl, rfl⟩
theorem box86 {m : Nm} {h : AH} {w : World} (hst : St m h (fun _ => False) w) : Mv m h (fun _ => False) w ((m.set h.length w.heap.size 0 0).set (h.length + 1) (w.heap.size + 1) 0 0) (h ++ obs86) (fun _ => False) ((w.alloc (Obj.cells #[Value.slice none 0 0] 85)).alloc (Obj.cells #[Value.int IntKind.i64 0, Value.int IntKind.i64 0] 147)) := by
 have hF1 : Fine (fun _ => False) w (fun _ => False) (w.alloc (Obj.cells #[Value.slice none 0 0] 85)) := (Fine.refl _ w).step ((Below.refl w.heap.size w).alloc (Nat.le_refl _) _)
 have hF2 : Fine (fun _ => False) (w.alloc (Obj.cells #[Value.slice none 0 0] 85)) (fun _ => False) ((w.alloc (Obj.cells #[Value.slice none 0 0] 85)).alloc (Obj.cells #[Value.int IntKind.i64 0, Value.int IntKind.i64 0] 147)) := (Fine.refl _ _).step ((Below.refl _ _).alloc (Nat.le_refl _) _)
 have h1 := hst.new hF1 w.heap.size 0 0 (.blk 85 1 [[.slice none 0 0]]) (Nat.le_refl _) ⟨by simp, fun h => h⟩ ⟨Nat.one_pos, [⟨[.slice none 0 0], rfl, by simp [Value.oneCell']⟩], rfl, Or.inr ⟨w.heap.size, 0, #[Value.slice none 0 0], rfl, Nat.zero_le _, ⟨by simp, fun h => h⟩, heap_alloc_new w _, Nat.le_refl _, by simp [maxLen], Nat.le_refl _, rfl⟩⟩
 have h2 := (h1.after hF2 (fun q hq => hq.elim)).push (w.heap.size + 1) 0 0 (.blk 147 2 [[.int .i64 0, .int .i64 0]]) ⟨by simp, fun h => h⟩ (fun j ob hj _ e => ?_) (Or.inr (Nat.le_succ _)) ⟨by decide, [⟨[.int .i64 0, .int .i64 0], rfl, by simp [Value.oneCell']⟩], rfl, Or.inr ⟨w.heap.size + 1, 0, #[Value.int .i64 0, Value.int .i64 0], rfl, Nat.zero_le _, ⟨by simp, fun h => h⟩, ?_, Nat.le_refl _, by simp [maxLen], Nat.le_refl _, rfl⟩⟩
 ·rw [List.append_assoc, List.length_append, List.length_cons, List.length_nil] at h2
  exact h2
 ·have := (h1.st.vis j (List.getElem?_eq_some_iff.1 hj).1).1
  simp at this
  omega
 ·have := heap_alloc_new (w.alloc (Obj.cells #[Value.slice none 0 0] 85)) (Obj.cells #[Value.int IntKind.i64 0, Value.int IntKind.i64 0] 147)
  simpa using this
theorem mid86_inv {args : List AV} {obs : List Ob} {tr : List AV → XT} (h : mid86 args = some (obs, tr)) : ∃ A n c, args = [.v (.slice A n c)] ∧ n ≤ 1200 ∧ obs = obs86 ∧ tr = tr86 A n c := by
 unfold mid86 at h
 split at h
 ·rename_i A n c
  obtain ⟨h1, h2⟩ := bif_some h
  exact ⟨A, n, c, rfl, ble_e h1, (congrArg Prod.fst h2).symm, (congrArg Prod.snd h2).symm⟩
 ·cases h
def MidR (m : Nm) (h : AH) (m1 : Nm) (Post : Ending → World → Prop) (e : Ending) (w2 : World) : Prop := e = .returned (.tuple #[]) ∧ ∃ m2 h2 v, tab.epi 86 h2 h.length = some v ∧ Agree (h ++ obs86).length m1 m2 ∧ St m2 h2 (fun _ => False) w2 ∧ ∀ w3, Fine (fun _ => False) w2 (fun _ => False) w3 → Post (.returned (v.g id)) w3
theorem dec_end {m m1 : Nm} {h : AH} {Post : Ending → World → Prop} {al af : Addr} {tmps : Array Value} {w' : World} {e : Ending} (hR : MidR m h m1 Post e w') (hal : al = m1.at h.length 0) (haf : af = m1.at (h.length + 1) 0) (t2 : tmps.getD 2 undef = .pointer (some al)) (t3 : tmps.getD 3 undef = .pointer (some af)) :
  Leaves Tryz.prog Tryz.f86 tmps Post [{ target := Target.fn (Fn.func 121) #[Value.pointer (some al), Value.pointer (some af)], args := #[] }] .returning w' := by
 obtain ⟨_, m2, h2, v, hv, hag, hst, hpost⟩ := hR
 refine leaves_cons (f := 121) (args := #[Value.pointer (some al), Value.pointer (some af)]) (by simp) (by simp [go_sem]) ?_
 refine (catch_n al af w').mono ?_
 rintro e u' w'' ⟨rfl, rfl, hF⟩
 have hst2 := hst.later hF
 have hv : epi86 h2 h.length = some v := hv
 unfold epi86 at hv
 split at hv
 ·rename_i e1 l e2 a b hl hf
  cases hv
  have hlen : (h ++ obs86).length = h.length + 2 := by rw [List.length_append]; rfl
  obtain ⟨r1, o1, _⟩ := hag h.length (by rw [hlen]; omega)
  obtain ⟨r2, o2, _⟩ := hag (h.length + 1) (by rw [hlen]; omega)
  have hal2 : al = m2.at h.length 0 := by rw [hal]; unfold Nm.at; rw [r1, o1]
  have haf2 : af = m2.at (h.length + 1) 0 := by rw [haf]; unfold Nm.at; rw [r2, o2]
  have hcl : w''.cell? al = some l := by
   obtain ⟨hr, _⟩ := hst2.read (i := h.length) (sz := 1) (rows := [[l]]) (by unfold getR; rw [hl])
   obtain ⟨ad, e1, hc, _⟩ := hr 0 l rfl
   cases e1
   rw [hal2]
   simpa [Addr.add] using hc
  have hrg : w''.rangeAt af.block af.off [a, b] := by
   obtain ⟨hp, xs, hx, ho⟩ := hst2.holds _ _ hf
   rcases ho with ⟨h, _⟩ | ⟨g, o, cur, hA, k2, k3, k5, k6, k7, k8, k9⟩
   ·cases h
   cases hA
   have hl : xs.length = 1 := by have := congrArg List.length hx; rwa [List.length_map] at this
   have hrg : w''.rangeAt (m2.r (h.length + 1)) (m2.o (h.length + 1)) ((cur.toList.drop (m2.o (h.length + 1))).take 2) := range_of (c := cur.toList) (T := e2) (by simpa using k5)
   rw [rv_flat, hx, hl] at k9
   have k9 : (cur.toList.drop (m2.o (h.length + 1))).take 2 = [a, b] := k9
   rw [k9] at hrg
   rw [haf2]
   exact hrg
  exact ⟨_, res86 t2 t3 hcl hrg (by rw [haf2]; rfl), hpost w'' hF⟩
 ·cases hv
theorem dec_rest {m m1 : Nm} {h : AH} {w3 : World} {A0 : Option Addr} {n c0 : Nat} {Post : Ending → World → Prop} {al af : Addr} (hal : al = m1.at h.length 0) (haf : af = m1.at (h.length + 1) 0) (hb : (tr86 A0 n c0 (ptrs m1 h.length obs86)).ok Tryz.prog [] (MidR m h m1 Post) noJ (fun _ => False) w3) :
  c86.wp Tryz.prog (bodyPostD Tryz.prog Tryz.f86 Post) { tmps := (AV.gs id (args86 A0 n c0 (.v (.pointer (some al))) (.v (.pointer (some af))))).toArray ++ Array.replicate (35 - (args86 A0 n c0 (.v (.pointer (some al))) (.v (.pointer (some af)))).length) undef, defers := [{ target := Target.fn (Fn.func 121) #[Value.pointer (some al), Value.pointer (some af)], args := #[] }] } w3 := by
 have key := wp_at (P := Tryz.prog) mixed (c := c86) (n := 35) (lo := 4) (w := w3) (ds := [{ target := Target.fn (Fn.func 121) #[Value.pointer (some al), Value.pointer (some af)], args := #[] }]) (tabA 86) noC (args86 A0 n c0 (.v (.pointer (some al))) (.v (.pointer (some af)))) (R := MidR m h m1 Post) rfl rfl (fun _ => by
  subst hal haf
  exact hb)
 refine wp_mono key ?_
 rintro e a' w' (⟨he, ⟨hd, ht⟩, hR⟩ | ⟨ps, rfl, ⟨hd, ht⟩, hR⟩)
 ·have t2 := ht 2 (by decide)
  have t3 := ht 3 (by decide)
  dsimp only at t2 t3
  rw [(dec_slots A0 n c0 al af).1] at t2
  rw [(dec_slots A0 n c0 al af).2] at t3
  have hlv : Leaves Tryz.prog Tryz.f86 a'.tmps Post a'.defers .returning w' := by
   rw [hd]
   exact dec_end hR hal haf t2 t3
  rcases he with rfl | rfl
  ·exact hlv
  ·exact hlv
 ·obtain ⟨h, _⟩ := hR
  cases h
set_option maxHeartbeats 4000000 in
theorem dec_c {m : Nm} {h : AH} {w : World} {A0 : Option Addr} {n c0 : Nat} {Post : Ending → World → Prop} (hn : n ≤ 1200)
  (hrest : ∀ w3, w3 = (w.alloc (Obj.cells #[Value.slice none 0 0] 85)).alloc (Obj.cells #[Value.int IntKind.i64 0, Value.int IntKind.i64 0] 147) → c86.wp Tryz.prog (bodyPostD Tryz.prog Tryz.f86 Post) { tmps := (AV.gs id (args86 A0 n c0 (.v (.pointer (some ⟨w.heap.size, 0, none⟩))) (.v (.pointer (some ⟨w.heap.size + 1, 0, none⟩))))).toArray ++ Array.replicate (35 - (args86 A0 n c0 (.v (.pointer (some ⟨w.heap.size, 0, none⟩))) (.v (.pointer (some ⟨w.heap.size + 1, 0, none⟩)))).length) undef, defers := [{ target := Target.fn (Fn.func 121) #[Value.pointer (some ⟨w.heap.size, 0, none⟩), Value.pointer (some ⟨w.heap.size + 1, 0, none⟩)], args := #[] }] } w3) : Calls Tryz.prog 86 #[.slice A0 n c0] w Post := by
 have hmf : ∀ (fn : Fn) (first cap : Array Value) (w : World), (Instr.makeFunc fn first cap).run Tryz.prog w = .ok (.func fn first cap) w := fun _ _ _ _ => rfl
 have HR := Aside0.mk hrest
 clear hrest
 refine calls_of_wp_defers Tryz.func86 f86_body ?_
 generalize hQ : bodyPostD Tryz.prog Tryz.f86 _ = Q
 have en : Tryz.f86.ntmps = 35 := by kernel_rfl
 rw [en]
 simp only [p0, p1, p3, Tryz.f86, List.size_toArray, List.length_cons, List.length_nil, Nat.reduceAdd, Nat.reduceSub, Array.replicate_succ, Array.replicate_zero, List.push_toArray, List.append_toArray, List.nil_append, List.cons_append]
 go_wp2
 have hc : decide ((1200 : Int) < (n : Int)) = false := decide_eq_false (by omega)
 rw [hc, dec_args, ← hQ]
 exact HR.out _ rfl
theorem mid_rule : MidRule Tryz.prog tab 86 := by
 intro args obs tr ht
 obtain ⟨A0, n, c0, rfl, hn, rfl, rfl⟩ := mid86_inv ht
 refine ⟨fun ρ => rfl, fun m h w Post hst hbody => ?_⟩
 refine dec_c (m := m) (h := h) hn (fun w3 hw3 => ?_)
 subst hw3
 have hmv := box86 hst
 have hne : h.length ≠ h.length + 1 := by omega
 exact dec_rest (m := m) (h := h) (m1 := (m.set h.length w.heap.size 0 0).set (h.length + 1) (w.heap.size + 1) 0 0) (by simp [Nm.at, Nm.set]) (by simp [Nm.at, Nm.set]) (hbody _ _ hmv)
end Go.Proofs.YtcbpgbfbffnogaaGreat.X
