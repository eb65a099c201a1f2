import Derived.Test.YtcbpgbfbffnogaaGreatzEz0
import Derived.Test.YtcbpgbfbffnogaaGreatzEx3
import Derived.Test.YtcbpgbfbffnogaaGreatzSm1
import Derived.Test.YtcbpgbfbffnogaaGreatzWWords
import Derived.Test.YtcbpgbfbffnogaaGreatzWMore
namespace Go.Proofs.YtcbpgbfbffnogaaGreat.X
open Go Go.RowKit Go.Proofs.YtcbpgbfbffnogaaGreatW.Rx Go.Proofs.YtcbpgbfbffnogaaGreatW.Ex Go.Proofs.YtcbpgbfbffnogaaGreatW.PrintWords Go.Proofs.YtcbpgbfbffnogaaGreatW.PrintMore
set_option linter.unusedVariables false
set_option linter.unusedSimpArgs false
set_option maxRecDepth 100000
noncomputable def tab0 : Tab := ⟨tabA, fun _ _ => none, fun _ => 0, fun _ _ => none, fun _ _ _ => none⟩
noncomputable def args109 : List AV := [.v (.slice none 0 0), .fn (.func 110) [] []]
noncomputable def run109 (m : Nm) := exec Tryz.prog tab0 m 1000 [] (.sub (.sub .nil .nil) (.sub (.sub .nil .nil) .nil)) [] [] (tree Tryz.prog (tab0.A 109) (tab0.C 109) Tryz.f109 args109 [])
theorem sort_nil (w : World) : Calls Tryz.prog 109 #[.slice none 0 0, .func (.func 110) #[] #[]] w fun e w2 => e = .returned (.tuple #[]) ∧ Below w.heap.size w w2 :=
 run_ok (T := tab0) mixed (fun f h => by cases h) (fun f h => by cases h) (fun f h => by cases h) (args := args109) (n := 1000) (s := .sub (.sub .nil .nil) (.sub (.sub .nil .nil) .nil)) Tryz.func109 rfl rfl rfl
  (fun m => (by kernel_rfl : (run109 m).isSome = true)) (fun m => (by kernel_rfl : (run109 m).map (fun q => (q.1.map fun o => (o.1.wf (fun _ => false), o.1.g id), q.2.map Owe.l)) = (run109 m).map (fun q => ([(true, .tuple #[])], q.2.map (Owe.rt m))))) w
structure ListI0 (w : World) (bm clock : Nat) (w' : World) : Prop where
 below : Below w.heap.size w w'
 iter : w'.heap[w.heap.size]? = some (.mapIter (some bm) clock #[] clock)
set_option maxHeartbeats 4000000 in
theorem list_nil (a : Addr) (bm clock : Nat) (g : Value) (w : World) (hcell : w.cell? a = some (.map (some bm))) (hm : w.heap[bm]? = some (.map #[] clock)) : Calls Tryz.prog 75 #[.pointer (some a), g] w fun e w2 => e = .returned (.slice none 0 0) ∧ Below w.heap.size w w2 := by
 have hrange := run_range_map (P := Tryz.prog) w 124 3 119 bm #[] clock rfl hm
 have HM := Aside0.mk hm
 clear hm
 go_enter Tryz.func75, Tryz.ntmps75
 go_wp2
 go_loopg [5, 7, 13, 14, 15, 16, 17, 18, 19, 20, 21, 22, 23] 0 (fun kq v5 v7 v13 v14 v15 v16 v17 v18 v19 v20 v21 v22 v23 w' => v5 = .slice none 0 0 ∧ Aside0 (ListI0 w bm clock w'))
 case atStart =>
  exact ⟨rfl, ⟨⟨(Below.refl w.heap.size w).alloc (Nat.le_refl _) _, heap_alloc_new w _⟩⟩⟩
 case round =>
  obtain ⟨rfl, HI⟩ := hrel
  have hbm : wr.heap[bm]? = some (.map #[] clock) := by
   rw [HI.out.below.block bm (Array.getElem?_eq_some_iff.1 HM.out).1]; exact HM.out
  rcases next_at (P := Tryz.prog) wr 0 w.heap.size bm clock clock #[] #[] clock HI.out.iter hbm (fun x hx => by cases hx) (Nat.le_refl _) with ⟨h0, hrun⟩ | ⟨e, he, w1, hal, hrun⟩
  ·clear h0 hbm
   have hcon := sort_nil wr
   go_wp2_with fail
   refine hcon.mono ?_
   rintro e w5 ⟨rfl, hb⟩
   have HB := Aside0.mk (HI.out.below.trans (hb.mono HI.out.below.size))
   clear hcon hb
   go_wp2
   go_ret
   exact ⟨rfl, HB.out⟩
  ·simp [leftOf] at he
theorem list_rule : ListRule Tryz.prog 75 := fun a bm clock g w h1 h2 => list_nil a bm clock g w h1 h2
end Go.Proofs.YtcbpgbfbffnogaaGreat.X
