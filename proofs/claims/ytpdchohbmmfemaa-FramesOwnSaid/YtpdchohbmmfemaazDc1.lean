import Derived.Test.YtpdchohbmmfemaazFf
import Derived.Test.YtpdchohbmmfemaazRx33
namespace Go.Proofs.Ytpdchohbmmfemaa.X
open Go Go.RowKit Go.Proofs.YtpdchohbmmfemaaW.Rx
set_option linter.unusedVariables false
set_option linter.unusedSimpArgs false
set_option maxRecDepth 10000
@[reducible] def RSl : FRow (Option Addr × Nat × Nat) := ⟨1, by decide, fun x => [Lf.V .sl x], fun _ => rfl, fun x u h => by
 simp only [List.mem_cons, List.not_mem_nil, or_false] at h
 subst h; rfl⟩
theorem dj_ne {a b : Addr} (h : a.block ≠ b.block) : Dj (some a) (some b) := fun c ⟨x, hx, h1⟩ ⟨y, hy, h2⟩ => by cases hx; cases hy; exact h (h1.trans h2.symm)
noncomputable def c24 : Code := match Try.f24.body with
 | some (.seq _ y) => y
 | _ => .skip
theorem c24_t (Al Af : Option Addr) (z1 z2 : Int) : X Try.prog ⟨21, 0⟩ noA noC (codeKeys c24) [] (drawX Try.prog ⟨21, 0⟩) c24 0 (startX [AV.v (.pointer Al), AV.v (.pointer Af), AV.v (.iface 48 (.agg #[.int .i64 z1, .int .i64 z2])), AV.v undef, AV.v undef, AV.v (.iface 48 (.agg #[.int .i64 z1, .int .i64 z2]))] 21 []) (fun e _ => endX e) =
 .sto Al [AV.v (Value.slice none 0 0)] [] (.sto Af [AV.v (.int .i64 z1), AV.v (.int .i64 z2)] [] (.done (AV.tup []) [])) := by kernel_rfl
theorem c24_n (Al Af : Option Addr) : X Try.prog ⟨21, 0⟩ noA noC (codeKeys c24) [] (drawX Try.prog ⟨21, 0⟩) c24 0 (startX [AV.v (.pointer Al), AV.v (.pointer Af), AV.v .nilIface, AV.v undef, AV.v undef, AV.v .nilIface] 21 []) (fun e _ => endX e) = .done (AV.tup []) [] := by kernel_rfl
set_option maxHeartbeats 2000000 in
theorem catch_p (al af : Addr) (x : Option Addr × Nat × Nat) (y : Int × Int) (z1 z2 : Int) (w : World) (hl : OwnO 0 (fun _ => False) w 22 RSl (some al) 1 [x]) (hf : OwnO 0 (fun _ => False) w 29 R34 (some af) 1 [y]) (hne : al.block ≠ af.block) :
  CallsD Try.prog 24 #[.pointer (some al), .pointer (some af)] (.panicking [{ v := .iface 48 (.agg #[.int .i64 z1, .int .i64 z2]), recovered := false }]) w fun e u' w' =>
   e = .returned (.tuple #[]) ∧ u' = .panicking [{ v := .iface 48 (.agg #[.int .i64 z1, .int .i64 z2]), recovered := true }] ∧ OwnO 0 (fun _ => False) w' 22 RSl (some al) 1 [(none, 0, 0)] ∧ OwnO 0 (fun _ => False) w' 29 R34 (some af) 1 [(z1, z2)] ∧ Fine (fun b => b = al.block ∨ b = af.block) w (fun b => b = al.block ∨ b = af.block) w' := by
 refine callsD_of_wpS Try.func24 rfl fun c₀ cs hu => ?_
 apply wpS_seq
 apply wpS_region
 simp [wpOpsS, go_sem, recoverD, hu, Try.ntmps24, Exit.thenS]
 refine wpS_of_wp ?_
 have key := wp_at (P := Try.prog) mixed (c := c24) (n := 21) (lo := 0) (w := w) (ds := []) noA noC [AV.v (.pointer (some al)), AV.v (.pointer (some af)), AV.v (.iface 48 (.agg #[.int .i64 z1, .int .i64 z2])), AV.v undef, AV.v undef, AV.v (.iface 48 (.agg #[.int .i64 z1, .int .i64 z2]))] (R := fun e w' => e = .returned (.tuple #[]) ∧ OwnO 0 (fun _ => False) w' 22 RSl (some al) 1 [(none, 0, 0)] ∧ OwnO 0 (fun _ => False) w' 29 R34 (some af) 1 [(z1, z2)] ∧ Fine (fun b => b = al.block ∨ b = af.block) w (fun b => b = al.block ∨ b = af.block) w') rfl rfl (fun hF0 => by
  rw [c24_t]
  have hF : Fine (fun b => b = al.block ∨ b = af.block) w (fun _ => False) w := ⟨rfl, rfl, rfl, Nat.le_refl _, fun _ _ _ => rfl, fun b h => h.elim⟩
  rw [← map_add0 (some al)]
  refine ok_put0 (R := RSl) (x' := (none, 0, 0)) (vs := [Value.slice none 0 0]) 0 hl (Nat.le_of_ble_eq_true rfl) rfl (fun _ => rfl) (fun L1 w1 hl1 g1 hid1 => ?_)
  have hF1 := Fine.own hF g1 (fun b ⟨a, ha, hb⟩ => by cases ha; exact Or.inl (Or.inl hb.symm)) hid1
  have hf1 := hf.other (dj_ne (Ne.symm hne)) g1
  rw [← map_add0 (some af)]
  refine ok_put0 (R := R34) (x' := (z1, z2)) (vs := [Value.int .i64 z1, Value.int .i64 z2]) 0 hf1 (Nat.le_of_ble_eq_true rfl) rfl (fun _ => rfl) (fun L2 w2 hf2 g2 hid2 => ?_)
  have hF2 := Fine.own hF1 g2 (fun b ⟨a, ha, hb⟩ => by cases ha; exact Or.inl (Or.inr hb.symm)) hid2
  have hl2 := hl1.other (dj_ne hne) g2
  intro ρ L w' _ he _ _
  exact ⟨rfl, (hl2.later he.fine).bare', (hf2.later he.fine).bare', (hF2.ext he).with (fun b h => Or.inl h)⟩)
 have et : (#[Value.pointer (some al), Value.pointer (some af)] ++ ((Array.replicate 19 undef).setIfInBounds 3 (Value.iface 48 (Value.agg #[Value.int IntKind.i64 z1, Value.int IntKind.i64 z2]))).setIfInBounds 0 (Value.iface 48 (Value.agg #[Value.int IntKind.i64 z1, Value.int IntKind.i64 z2]))) = (AV.gs id [AV.v (.pointer (some al)), AV.v (.pointer (some af)), AV.v (.iface 48 (.agg #[.int .i64 z1, .int .i64 z2])), AV.v undef, AV.v undef, AV.v (.iface 48 (.agg #[.int .i64 z1, .int .i64 z2]))]).toArray ++ Array.replicate (21 - 6) undef := by kernel_rfl
 rw [et]
 refine wp_mono key ?_
 rintro e a' w' (⟨he, ⟨hd, _⟩, h1, h2, h3, h4⟩ | ⟨ps, rfl, _, h, _⟩)
 ·rcases he with rfl | rfl
  ·exact ⟨hd, _, rfl, .tuple #[], results_none rfl _ _ _, rfl, rfl, h2, h3, h4⟩
  ·exact ⟨hd, _, rfl, .tuple #[], results_none rfl _ _ _, rfl, rfl, h2, h3, h4⟩
 ·cases h
set_option maxHeartbeats 2000000 in
theorem catch_n (al af : Addr) (w : World) :
  CallsD Try.prog 24 #[.pointer (some al), .pointer (some af)] .returning w fun e u' w' => e = .returned (.tuple #[]) ∧ u' = .returning ∧ Fine (fun _ => False) w (fun _ => False) w' := by
 refine callsD_of_wpS Try.func24 rfl fun c₀ cs hu => ?_
 apply wpS_seq
 apply wpS_region
 simp [wpOpsS, go_sem, recoverD, hu, Try.ntmps24, Exit.thenS]
 refine wpS_of_wp ?_
 have key := wp_at (P := Try.prog) mixed (c := c24) (n := 21) (lo := 0) (w := w) (ds := []) noA noC [AV.v (.pointer (some al)), AV.v (.pointer (some af)), AV.v .nilIface, AV.v undef, AV.v undef, AV.v .nilIface] (R := fun e w' => e = .returned (.tuple #[]) ∧ Fine (fun _ => False) w (fun _ => False) w') rfl rfl (fun hF => by
  rw [c24_n]
  intro ρ L w' _ he _ _
  exact ⟨rfl, (hF.ext he).with (fun b h => h.elim)⟩)
 have et : (#[Value.pointer (some al), Value.pointer (some af)] ++ ((Array.replicate 19 undef).setIfInBounds 3 Value.nilIface).setIfInBounds 0 Value.nilIface) = (AV.gs id [AV.v (.pointer (some al)), AV.v (.pointer (some af)), AV.v .nilIface, AV.v undef, AV.v undef, AV.v .nilIface]).toArray ++ Array.replicate (21 - 6) undef := by kernel_rfl
 rw [et]
 refine wp_mono key ?_
 rintro e a' w' (⟨he, ⟨hd, _⟩, h1, h2⟩ | ⟨ps, rfl, _, h, _⟩)
 ·have hc : c₀ = { c₀ with mode := .returning } := by rw [← hu]
  rcases he with rfl | rfl
  ·exact ⟨hd, .returning, by rw [← hc], .tuple #[], results_none rfl _ _ _, rfl, rfl, h2⟩
  ·exact ⟨hd, .returning, by rw [← hc], .tuple #[], results_none rfl _ _ _, rfl, rfl, h2⟩
 ·cases h
end Go.Proofs.Ytpdchohbmmfemaa.X
