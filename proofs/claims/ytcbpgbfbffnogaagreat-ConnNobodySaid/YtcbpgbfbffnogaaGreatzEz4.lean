import Derived.Test.YtcbpgbfbffnogaaGreatzEz3
namespace Go.Proofs.YtcbpgbfbffnogaaGreat.X
open Go Go.RowKit Go.Proofs.YtcbpgbfbffnogaaGreatW.Rx Go.Proofs.YtcbpgbfbffnogaaGreatW.Ex
set_option linter.unusedVariables false
set_option maxRecDepth 100000
def hints6 : List (Nat × Nat) := [(1, 0), (1000001, 0), (1000000, 0), (1000002, 0), (1000001, 0), (1000000, 0), (1000002, 0), (1000001, 0), (1000000, 0), (1000002, 0), (1000001, 0), (1000000, 0), (1000001, 0), (1000000, 0), (1000001, 0), (1000000, 0), (1000001, 0), (1000000, 0), (1, 1), (1000002, 0), (1000001, 0), (0, 4), (1000003, 0), (1000002, 0), (1000001, 0), (0, 4), (1000003, 0), (1000002, 0), (1000001, 0), (0, 4), (1000003, 0), (1000002, 0), (1000001, 0), (0, 4), (1000002, 0), (1000001, 0), (0, 4), (1000002, 0), (1000001, 0), (0, 4), (1000002, 0), (1000001, 0), (0, 4), (1000018, 0), (1000000, 0), (1000000, 0), (1000000, 0), (5, 50), (5, 25), (5, 54), (1000000, 0), (5, 51), (5, 32), (5, 55), (1000000, 0), (5, 52), (5, 39), (5, 56), (1000000, 0), (5, 53), (5, 46), (5, 57)]
def hints6e : List (Nat × Nat) := [(1, 0), (1000001, 0), (1000000, 0), (1000002, 0), (1000001, 0), (1000000, 0), (1000002, 0), (1000001, 0), (1000000, 0), (1000002, 0), (1000001, 0), (1000000, 0), (1000001, 0), (1000000, 0), (1000001, 0), (1000000, 0), (1000001, 0), (1000000, 0), (1, 1), (1000002, 0), (1000001, 0), (0, 4), (1000003, 0), (1000002, 0), (1000001, 0), (0, 4), (1000003, 0), (1000002, 0), (1000001, 0), (0, 4), (1000003, 0), (1000002, 0), (1000001, 0), (0, 4), (1000002, 0), (1000001, 0), (0, 4), (1000002, 0), (1000001, 0), (0, 4), (1000002, 0), (1000001, 0), (0, 4), (1000000, 0)]
theorem tab_c {f q : Nat} (h : tab.ext f = q) : (bif Nat.beq f 8 then 3 else bif Nat.beq f 75 then 1 else bif Nat.beq f 86 then 2 else 0) = q := h
theorem tab_1 {f : Nat} (h : tab.ext f = 1) : f = 75 := by
 have h := tab_c h
 cases h0 : Nat.beq f 8 <;> cases h1 : Nat.beq f 75 <;> cases h2 : Nat.beq f 86 <;> rw [h0, h1, h2] at h <;> first | exact beq_e h1 | cases h
theorem tab_2 {f : Nat} (h : tab.ext f = 2) : f = 86 := by
 have h := tab_c h
 cases h0 : Nat.beq f 8 <;> cases h1 : Nat.beq f 75 <;> cases h2 : Nat.beq f 86 <;> rw [h0, h1, h2] at h <;> first | exact beq_e h2 | cases h
theorem tab_3 {f : Nat} (h : tab.ext f = 3) : f = 8 := by
 have h := tab_c h
 cases h0 : Nat.beq f 8 <;> cases h1 : Nat.beq f 75 <;> cases h2 : Nat.beq f 86 <;> rw [h0, h1, h2] at h <;> first | exact beq_e h0 | cases h
section
variable (kind stream n at_ by_ : Int) (B : Option Addr) (nb cb : Nat)
def args6 (side : Int) (fin : Bool) : List AV := [.agg [.v (.int .i64 kind), .v (.int .i64 side), .v (.int .i64 stream), .v (.int .i64 n), .v (.int .i64 at_), .v (.int .u8 by_), .v (.slice B nb cb), .v (.bool fin)]]
noncomputable def run6 (s : List (Nat × Nat)) (args : List AV) (m : Nm) := exec Tryz.prog tab m 200000 [] (mkHT 1000 s) [] [] (tree Tryz.prog (tab.A 6) (tab.C 6) Tryz.f6 args [])
theorem ok6 {s : List (Nat × Nat)} {side : Int} {fin : Bool} (h1 : ∀ m, (run6 s (args6 kind stream n at_ by_ B nb cb side fin) m).isSome = true)
  (h2 : ∀ m, (run6 s (args6 kind stream n at_ by_ B nb cb side fin) m).map (fun q => (q.1.map fun o => (o.1.wf (fun _ => false), o.1.g id), q.2.map Owe.l)) = (run6 s (args6 kind stream n at_ by_ B nb cb side fin) m).map (fun q => ([(true, .bool true)], q.2.map (Owe.rt m)))) (w : World) :
  Calls Tryz.prog 6 (AV.gs id (args6 kind stream n at_ by_ B nb cb side fin)).toArray w fun e w2 => e = .returned (.bool true) ∧ Below w.heap.size w w2 :=
 run_ok (T := tab) mixed (fun f h => by rw [tab_1 h]; exact list_rule) (fun f h => by rw [tab_2 h]; exact mid_rule) (fun f h => by rw [tab_3 h]; exact alive_c) (n := 200000) (s := mkHT 1000 s) Tryz.func6 rfl rfl rfl h1 h2 w
theorem ok6_0 (w : World) : Calls Tryz.prog 6 (AV.gs id (args6 kind stream n at_ by_ B nb cb 0 true)).toArray w fun e w2 => e = .returned (.bool true) ∧ Below w.heap.size w w2 :=
 ok6 (s := hints6) kind stream n at_ by_ B nb cb (fun m => by kernel_rfl) (fun m => by kernel_rfl) w
theorem ok6_0f (w : World) : Calls Tryz.prog 6 (AV.gs id (args6 kind stream n at_ by_ B nb cb 0 false)).toArray w fun e w2 => e = .returned (.bool true) ∧ Below w.heap.size w w2 :=
 ok6 (s := hints6) kind stream n at_ by_ B nb cb (fun m => by kernel_rfl) (fun m => by kernel_rfl) w
theorem ok6_1 (w : World) : Calls Tryz.prog 6 (AV.gs id (args6 kind stream n at_ by_ B nb cb 1 true)).toArray w fun e w2 => e = .returned (.bool true) ∧ Below w.heap.size w w2 :=
 ok6 (s := hints6) kind stream n at_ by_ B nb cb (fun m => by kernel_rfl) (fun m => by kernel_rfl) w
theorem ok6_1f (w : World) : Calls Tryz.prog 6 (AV.gs id (args6 kind stream n at_ by_ B nb cb 1 false)).toArray w fun e w2 => e = .returned (.bool true) ∧ Below w.heap.size w w2 :=
 ok6 (s := hints6) kind stream n at_ by_ B nb cb (fun m => by kernel_rfl) (fun m => by kernel_rfl) w
theorem ok6_2 (k : Nat) (w : World) : Calls Tryz.prog 6 (AV.gs id (args6 kind stream n at_ by_ B nb cb (.ofNat (k + 2)) true)).toArray w fun e w2 => e = .returned (.bool true) ∧ Below w.heap.size w w2 :=
 ok6 (s := hints6e) kind stream n at_ by_ B nb cb (fun m => by kernel_rfl) (fun m => by kernel_rfl) w
theorem ok6_2f (k : Nat) (w : World) : Calls Tryz.prog 6 (AV.gs id (args6 kind stream n at_ by_ B nb cb (.ofNat (k + 2)) false)).toArray w fun e w2 => e = .returned (.bool true) ∧ Below w.heap.size w w2 :=
 ok6 (s := hints6e) kind stream n at_ by_ B nb cb (fun m => by kernel_rfl) (fun m => by kernel_rfl) w
theorem ok6_3 (k : Nat) (w : World) : Calls Tryz.prog 6 (AV.gs id (args6 kind stream n at_ by_ B nb cb (.negSucc k) true)).toArray w fun e w2 => e = .returned (.bool true) ∧ Below w.heap.size w w2 :=
 ok6 (s := hints6e) kind stream n at_ by_ B nb cb (fun m => by kernel_rfl) (fun m => by kernel_rfl) w
theorem ok6_3f (k : Nat) (w : World) : Calls Tryz.prog 6 (AV.gs id (args6 kind stream n at_ by_ B nb cb (.negSucc k) false)).toArray w fun e w2 => e = .returned (.bool true) ∧ Below w.heap.size w w2 :=
 ok6 (s := hints6e) kind stream n at_ by_ B nb cb (fun m => by kernel_rfl) (fun m => by kernel_rfl) w
theorem law_nobody (side : Int) (fin : Bool) (w : World) : Calls Tryz.prog 6 #[.agg #[.int .i64 kind, .int .i64 side, .int .i64 stream, .int .i64 n, .int .i64 at_, .int .u8 by_, .slice B nb cb, .bool fin]] w fun e w2 => e = .returned (.bool true) ∧ Below w.heap.size w w2 := by
 match side, fin with
 | .ofNat 0, true => exact ok6_0 kind stream n at_ by_ B nb cb w
 | .ofNat 0, false => exact ok6_0f kind stream n at_ by_ B nb cb w
 | .ofNat 1, true => exact ok6_1 kind stream n at_ by_ B nb cb w
 | .ofNat 1, false => exact ok6_1f kind stream n at_ by_ B nb cb w
 | .ofNat (k + 2), true => exact ok6_2 kind stream n at_ by_ B nb cb k w
 | .ofNat (k + 2), false => exact ok6_2f kind stream n at_ by_ B nb cb k w
 | .negSucc k, true => exact ok6_3 kind stream n at_ by_ B nb cb k w
 | .negSucc k, false => exact ok6_3f kind stream n at_ by_ B nb cb k w
end
end Go.Proofs.YtcbpgbfbffnogaaGreat.X
