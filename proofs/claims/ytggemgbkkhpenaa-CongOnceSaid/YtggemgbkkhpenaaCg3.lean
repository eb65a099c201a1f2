/- cong: Sent, Gone, Acked, Lost. -/
import Derived.Test.YtggemgbkkhpenaaCg2
namespace Go.Proofs.Ytggemgbkkhpenaa.X
open Go Go.RowKit Go.Proofs.YtggemgbkkhpenaaW.Rx
set_option linter.unusedVariables false
set_option linter.unusedSimpArgs false
theorem new_block {L L2 : Nat → Prop} {w1 w2 : World} {o : Obj} (hlt : ∀ b, L b → b < w1.heap.size) (he : Ext L (w1.alloc o) L2 w2) : w2.heap[w1.heap.size]? = some o ∧ ¬ L2 w1.heap.size := by
  have h0 : ¬ L w1.heap.size := fun h => Nat.lt_irrefl _ (hlt _ h)
  refine ⟨?_, fun h => ?_⟩
  · rw [he.keep _ (by simp) h0]; exact Array.getElem?_push_size
  · have := he.new _ h h0; simp at this; omega
theorem add_at (b o j : Nat) : Addr.add ⟨b, o, none⟩ j = ⟨b, o + j, none⟩ := by
  unfold Addr.add
  split
  · rename_i h; subst h; rfl
  · rfl
theorem not_own {ρ ρ' : Nat → Nat} {L : Nat → Prop} {w : World} {ex ex' : Out} {b : Nat} (ho : Outs ρ L w ex) (e : (ex'.map fun x => ρ' x.1) = ex.map fun x => ρ x.1) (h : ¬ L b) : ¬ own ρ' ex' b := by
  rintro ⟨x, hx, rfl⟩
  have hm : ρ' x.1 ∈ ex'.map fun x => ρ' x.1 := List.mem_map_of_mem (f := fun x : Nat × List AV × TypeId => ρ' x.1) hx
  rw [e] at hm
  obtain ⟨y, hy, hxy⟩ := List.mem_map.1 hm
  exact h (by rw [← hxy]; exact outs_hid ho y hy)
theorem below_alloc (w : World) (o : Obj) : Below w.heap.size w (w.alloc o) := (Below.refl w.heap.size w).alloc (Nat.le_refl _) _
def cong_Sent.F (a0_0 : Int) (a0_1 : Int) (a0_2 : Int) (a0_3 : Int) (a0_4 : Int) (a1 : Int) : Tup L6 := ch (good a0_0 a0_1 a0_2 a0_3 a0_4 a1 && times []) (decide ((cong_Room.F a0_0 a0_1 a0_2 a0_3 a0_4).1 < a1)) (cl33.F a0_0 a0_1 a0_2 a0_3 a0_4 a1)
theorem cong_Sent.t (a0_0 : Int) (a0_1 : Int) (a0_2 : Int) (a0_3 : Int) (a0_4 : Int) (a1 : Int) : tree Try.prog noA noC Try.f22 [AV.agg [AV.v (Value.int IntKind.i64 a0_0), AV.v (Value.int IntKind.i64 a0_1), AV.v (Value.int IntKind.i64 a0_2), AV.v (Value.int IntKind.i64 a0_3), AV.v (Value.int IntKind.i64 a0_4)], AV.v (Value.int IntKind.i64 a1)] [] = .call 12 [.agg (St a0_0 a0_1 a0_2 a0_3 a0_4)] [] Sh.one [Lf.i .i64] [] (fun x0 => .call 28 [.agg (St a0_0 a0_1 a0_2 a0_3 a0_4), I a1, I x0.1, AV.v (.slice none 0 0), .fn (.func 33) [] [.p 1001 0]] [(1001, [I a1], 3)] (Sh.tup [(true, 5), (false, 1)]) [Lf.i .i64, Lf.i .i64, Lf.i .i64, Lf.i .i64, Lf.i .i64, Lf.i .i64, Lf.i .i64] [1] (fun x1 => .done (.tup [.agg (St x1.1 x1.2.1 x1.2.2.1 x1.2.2.2.1 x1.2.2.2.2.1), I x1.2.2.2.2.2.1]) [])) := by kernel_rfl
theorem cong_Sent.c (a0_0 : Int) (a0_1 : Int) (a0_2 : Int) (a0_3 : Int) (a0_4 : Int) (a1 : Int) (w : World) : Quiet Try.prog 22 (AV.gs id [AV.agg [AV.v (Value.int IntKind.i64 a0_0), AV.v (Value.int IntKind.i64 a0_1), AV.v (Value.int IntKind.i64 a0_2), AV.v (Value.int IntKind.i64 a0_3), AV.v (Value.int IntKind.i64 a0_4)], AV.v (Value.int IntKind.i64 a1)]).toArray w ((Sh.tup [(true, 5), (false, 1)] : Sh).av (vs L6 (cong_Sent.F a0_0 a0_1 a0_2 a0_3 a0_4 a1)) |>.g id) := by
  refine enter0 mixed noA noC [AV.agg [AV.v (Value.int IntKind.i64 a0_0), AV.v (Value.int IntKind.i64 a0_1), AV.v (Value.int IntKind.i64 a0_2), AV.v (Value.int IntKind.i64 a0_3), AV.v (Value.int IntKind.i64 a0_4)], AV.v (Value.int IntKind.i64 a1)] Try.func22 rfl rfl rfl (fun hF => ?_)
  rw [cong_Sent.t]
  refine ok_callq (x := cong_Room.F a0_0 a0_1 a0_2 a0_3 a0_4) hF rfl (fun L w _ => cong_Room.c a0_0 a0_1 a0_2 a0_3 a0_4 w) (fun L w1 hF => ?_)
  refine ok_callT (x := ((cong_Sent.F a0_0 a0_1 a0_2 a0_3 a0_4 a1).1, (cong_Sent.F a0_0 a0_1 a0_2 a0_3 a0_4 a1).2.1, (cong_Sent.F a0_0 a0_1 a0_2 a0_3 a0_4 a1).2.2.1, (cong_Sent.F a0_0 a0_1 a0_2 a0_3 a0_4 a1).2.2.2.1, (cong_Sent.F a0_0 a0_1 a0_2 a0_3 a0_4 a1).2.2.2.2.1, (cong_Sent.F a0_0 a0_1 a0_2 a0_3 a0_4 a1).2.2.2.2.2.1, a1, ())) hF (fun ρ L2 w2 hp hF2 he2 ho hap => ch33.c a0_0 a0_1 a0_2 a0_3 a0_4 a1 (cong_Room.F a0_0 a0_1 a0_2 a0_3 a0_4).1 none 0 [] (by simp) (fun k => match k with | 0 => ρ 1001 | _ => 0) w2 (fun j x hj => by simp at hj) (stand_of ho) (apart_map rfl hap)) (fun L w2 hF => ?_)
  exact ok_done hF rfl rfl
def cong_Gone.F (a0_0 : Int) (a0_1 : Int) (a0_2 : Int) (a0_3 : Int) (a0_4 : Int) (a1 : Int) : Tup L6 := ch (good a0_0 a0_1 a0_2 a0_3 a0_4 a1 && times []) (decide (a0_2 < a1)) (cl35.F a0_0 a0_1 a0_2 a0_3 a0_4 a1)
theorem cong_Gone.t (a0_0 : Int) (a0_1 : Int) (a0_2 : Int) (a0_3 : Int) (a0_4 : Int) (a1 : Int) : tree Try.prog noA noC Try.f24 [AV.agg [AV.v (Value.int IntKind.i64 a0_0), AV.v (Value.int IntKind.i64 a0_1), AV.v (Value.int IntKind.i64 a0_2), AV.v (Value.int IntKind.i64 a0_3), AV.v (Value.int IntKind.i64 a0_4)], AV.v (Value.int IntKind.i64 a1)] [] = .call 28 [.agg (St a0_0 a0_1 a0_2 a0_3 a0_4), I a1, I a0_2, AV.v (.slice none 0 0), .fn (.func 35) [] [.p 1001 0]] [(1001, [I a1], 3)] (Sh.tup [(true, 5), (false, 1)]) [Lf.i .i64, Lf.i .i64, Lf.i .i64, Lf.i .i64, Lf.i .i64, Lf.i .i64, Lf.i .i64] [1] (fun x1 => .done (.tup [.agg (St x1.1 x1.2.1 x1.2.2.1 x1.2.2.2.1 x1.2.2.2.2.1), I x1.2.2.2.2.2.1]) []) := by kernel_rfl
theorem cong_Gone.c (a0_0 : Int) (a0_1 : Int) (a0_2 : Int) (a0_3 : Int) (a0_4 : Int) (a1 : Int) (w : World) : Quiet Try.prog 24 (AV.gs id [AV.agg [AV.v (Value.int IntKind.i64 a0_0), AV.v (Value.int IntKind.i64 a0_1), AV.v (Value.int IntKind.i64 a0_2), AV.v (Value.int IntKind.i64 a0_3), AV.v (Value.int IntKind.i64 a0_4)], AV.v (Value.int IntKind.i64 a1)]).toArray w ((Sh.tup [(true, 5), (false, 1)] : Sh).av (vs L6 (cong_Gone.F a0_0 a0_1 a0_2 a0_3 a0_4 a1)) |>.g id) := by
  refine enter0 mixed noA noC [AV.agg [AV.v (Value.int IntKind.i64 a0_0), AV.v (Value.int IntKind.i64 a0_1), AV.v (Value.int IntKind.i64 a0_2), AV.v (Value.int IntKind.i64 a0_3), AV.v (Value.int IntKind.i64 a0_4)], AV.v (Value.int IntKind.i64 a1)] Try.func24 rfl rfl rfl (fun hF => ?_)
  rw [cong_Gone.t]
  refine ok_callT (x := ((cong_Gone.F a0_0 a0_1 a0_2 a0_3 a0_4 a1).1, (cong_Gone.F a0_0 a0_1 a0_2 a0_3 a0_4 a1).2.1, (cong_Gone.F a0_0 a0_1 a0_2 a0_3 a0_4 a1).2.2.1, (cong_Gone.F a0_0 a0_1 a0_2 a0_3 a0_4 a1).2.2.2.1, (cong_Gone.F a0_0 a0_1 a0_2 a0_3 a0_4 a1).2.2.2.2.1, (cong_Gone.F a0_0 a0_1 a0_2 a0_3 a0_4 a1).2.2.2.2.2.1, a1, ())) hF (fun ρ L2 w2 hp hF2 he2 ho hap => ch35.c a0_0 a0_1 a0_2 a0_3 a0_4 a1 a0_2 none 0 [] (by simp) (fun k => match k with | 0 => ρ 1001 | _ => 0) w2 (fun j x hj => by simp at hj) (stand_of ho) (apart_map rfl hap)) (fun L w2 hF => ?_)
  exact ok_done hF rfl rfl
def cong_Acked.F (a0_0 : Int) (a0_1 : Int) (a0_2 : Int) (a0_3 : Int) (a0_4 : Int) (a1 : Int) (a2 : Int) : Tup L6 := ch (good a0_0 a0_1 a0_2 a0_3 a0_4 a1 && times [a2]) (decide (a0_2 < a1)) (cl29.F a0_0 a0_1 a0_2 a0_3 a0_4 a1 a2)
theorem cong_Acked.t (a0_0 : Int) (a0_1 : Int) (a0_2 : Int) (a0_3 : Int) (a0_4 : Int) (a1 : Int) (a2 : Int) : tree Try.prog noA noC Try.f18 [AV.agg [AV.v (Value.int IntKind.i64 a0_0), AV.v (Value.int IntKind.i64 a0_1), AV.v (Value.int IntKind.i64 a0_2), AV.v (Value.int IntKind.i64 a0_3), AV.v (Value.int IntKind.i64 a0_4)], AV.v (Value.int IntKind.i64 a1), AV.v (Value.int IntKind.i64 a2)] [] = .sem (Instr.buildSlice 54 1 { toList := [(0, Z a2)] }) [Lf.sl] Sh.one (fun x0 => .call 28 [.agg (St a0_0 a0_1 a0_2 a0_3 a0_4), I a1, I a0_2, AV.v (.slice x0.1.1 x0.1.2.1 x0.1.2.2), .fn (.func 29) [] [.p 1001 0, .p 1002 0]] [(1001, [I a1], 3), (1002, [I a2], 3)] (Sh.tup [(true, 5), (false, 1)]) [Lf.i .i64, Lf.i .i64, Lf.i .i64, Lf.i .i64, Lf.i .i64, Lf.i .i64, Lf.i .i64, Lf.i .i64] [1, 1] (fun x1 => .done (.tup [.agg (St x1.1 x1.2.1 x1.2.2.1 x1.2.2.2.1 x1.2.2.2.2.1), I x1.2.2.2.2.2.1]) [])) := by kernel_rfl
theorem cong_Acked.c (a0_0 : Int) (a0_1 : Int) (a0_2 : Int) (a0_3 : Int) (a0_4 : Int) (a1 : Int) (a2 : Int) (w : World) : Quiet Try.prog 18 (AV.gs id [AV.agg [AV.v (Value.int IntKind.i64 a0_0), AV.v (Value.int IntKind.i64 a0_1), AV.v (Value.int IntKind.i64 a0_2), AV.v (Value.int IntKind.i64 a0_3), AV.v (Value.int IntKind.i64 a0_4)], AV.v (Value.int IntKind.i64 a1), AV.v (Value.int IntKind.i64 a2)]).toArray w ((Sh.tup [(true, 5), (false, 1)] : Sh).av (vs L6 (cong_Acked.F a0_0 a0_1 a0_2 a0_3 a0_4 a1 a2)) |>.g id) := by
  refine enter0 mixed noA noC [AV.agg [AV.v (Value.int IntKind.i64 a0_0), AV.v (Value.int IntKind.i64 a0_1), AV.v (Value.int IntKind.i64 a0_2), AV.v (Value.int IntKind.i64 a0_3), AV.v (Value.int IntKind.i64 a0_4)], AV.v (Value.int IntKind.i64 a1), AV.v (Value.int IntKind.i64 a2)] Try.func18 rfl rfl rfl (fun hF => ?_)
  rw [cong_Acked.t]
  refine ok_sem hF (fun L w1 he hF1 => ⟨((some ⟨w1.heap.size, 0, none⟩, 1, 1), ()), w1.alloc (.cells #[Z a2] 3), run_buildSlice w1 54 3 1 { toList := [(0, Z a2)] } #[Z a2] _ (Z 0) rfl rfl rfl (by decide) (by decide) (by kernel_rfl), below_alloc _ _, ?_⟩)
  have hA : ∀ (ρ : Nat → Nat) L2 w2, Ext L (w1.alloc (.cells #[Z a2] 3)) L2 w2 → Outs ρ L2 w2 [(1001, [I a1], 3), (1002, [I a2], 3)] → ∀ j x, [a2][j]? = some x → ∃ ad, some (⟨w1.heap.size, 0, none⟩ : Addr) = some ad ∧ w2.cell? (ad.add j) = some (Z x) ∧ ¬ own (fun k => match k with | 0 => ρ 1001 | 1 => ρ 1002 | _ => 0) [(0, [I a1], 3), (1, [I a2], 3)] (ad.add j).block := by
    intro ρ L2 w2 he2 ho j x hj
    obtain ⟨n1, n2⟩ := new_block he.lt he2
    refine ⟨_, rfl, ?_, by rw [add_at]; exact not_own ho rfl n2⟩
    rw [add_at]
    match j, hj with
    | 0, hj => simp only [List.getElem?_cons_zero, List.getElem?_cons_succ, Option.some.injEq] at hj; subst hj; unfold World.cell?; dsimp only; rw [n1]; rfl
    | j + 1, hj => simp at hj
  replace hF := hF1.step (below_alloc w1 (.cells #[Z a2] 3))
  refine ok_callT (x := ((cong_Acked.F a0_0 a0_1 a0_2 a0_3 a0_4 a1 a2).1, (cong_Acked.F a0_0 a0_1 a0_2 a0_3 a0_4 a1 a2).2.1, (cong_Acked.F a0_0 a0_1 a0_2 a0_3 a0_4 a1 a2).2.2.1, (cong_Acked.F a0_0 a0_1 a0_2 a0_3 a0_4 a1 a2).2.2.2.1, (cong_Acked.F a0_0 a0_1 a0_2 a0_3 a0_4 a1 a2).2.2.2.2.1, (cong_Acked.F a0_0 a0_1 a0_2 a0_3 a0_4 a1 a2).2.2.2.2.2.1, a1, a2, ())) hF (fun ρ L2 w2 hp hF2 he2 ho hap => ch29.c a0_0 a0_1 a0_2 a0_3 a0_4 a1 a2 a0_2 (some ⟨w1.heap.size, 0, none⟩) 1 [a2] (by simp) (fun k => match k with | 0 => ρ 1001 | 1 => ρ 1002 | _ => 0) w2 (hA ρ L2 w2 he2 ho) (stand_of ho) (apart_map rfl hap)) (fun L w2 hF => ?_)
  exact ok_done hF rfl rfl
def cong_Lost.F (a0_0 : Int) (a0_1 : Int) (a0_2 : Int) (a0_3 : Int) (a0_4 : Int) (a1 : Int) (a2 : Int) (a3 : Int) : Tup L6 := ch (good a0_0 a0_1 a0_2 a0_3 a0_4 a1 && times [a2, a3]) (decide (a0_2 < a1)) (cl32.F a0_0 a0_1 a0_2 a0_3 a0_4 a1 a2 a3)
theorem cong_Lost.t (a0_0 : Int) (a0_1 : Int) (a0_2 : Int) (a0_3 : Int) (a0_4 : Int) (a1 : Int) (a2 : Int) (a3 : Int) : tree Try.prog noA noC Try.f20 [AV.agg [AV.v (Value.int IntKind.i64 a0_0), AV.v (Value.int IntKind.i64 a0_1), AV.v (Value.int IntKind.i64 a0_2), AV.v (Value.int IntKind.i64 a0_3), AV.v (Value.int IntKind.i64 a0_4)], AV.v (Value.int IntKind.i64 a1), AV.v (Value.int IntKind.i64 a2), AV.v (Value.int IntKind.i64 a3)] [] = .sem (Instr.buildSlice 54 2 { toList := [(0, Z a2), (1, Z a3)] }) [Lf.sl] Sh.one (fun x0 => .call 28 [.agg (St a0_0 a0_1 a0_2 a0_3 a0_4), I a1, I a0_2, AV.v (.slice x0.1.1 x0.1.2.1 x0.1.2.2), .fn (.func 32) [] [.p 1001 0, .p 1002 0, .p 1003 0]] [(1001, [I a1], 3), (1002, [I a2], 3), (1003, [I a3], 3)] (Sh.tup [(true, 5), (false, 1)]) [Lf.i .i64, Lf.i .i64, Lf.i .i64, Lf.i .i64, Lf.i .i64, Lf.i .i64, Lf.i .i64, Lf.i .i64, Lf.i .i64] [1, 1, 1] (fun x1 => .done (.tup [.agg (St x1.1 x1.2.1 x1.2.2.1 x1.2.2.2.1 x1.2.2.2.2.1), I x1.2.2.2.2.2.1]) [])) := by kernel_rfl
theorem cong_Lost.c (a0_0 : Int) (a0_1 : Int) (a0_2 : Int) (a0_3 : Int) (a0_4 : Int) (a1 : Int) (a2 : Int) (a3 : Int) (w : World) : Quiet Try.prog 20 (AV.gs id [AV.agg [AV.v (Value.int IntKind.i64 a0_0), AV.v (Value.int IntKind.i64 a0_1), AV.v (Value.int IntKind.i64 a0_2), AV.v (Value.int IntKind.i64 a0_3), AV.v (Value.int IntKind.i64 a0_4)], AV.v (Value.int IntKind.i64 a1), AV.v (Value.int IntKind.i64 a2), AV.v (Value.int IntKind.i64 a3)]).toArray w ((Sh.tup [(true, 5), (false, 1)] : Sh).av (vs L6 (cong_Lost.F a0_0 a0_1 a0_2 a0_3 a0_4 a1 a2 a3)) |>.g id) := by
  refine enter0 mixed noA noC [AV.agg [AV.v (Value.int IntKind.i64 a0_0), AV.v (Value.int IntKind.i64 a0_1), AV.v (Value.int IntKind.i64 a0_2), AV.v (Value.int IntKind.i64 a0_3), AV.v (Value.int IntKind.i64 a0_4)], AV.v (Value.int IntKind.i64 a1), AV.v (Value.int IntKind.i64 a2), AV.v (Value.int IntKind.i64 a3)] Try.func20 rfl rfl rfl (fun hF => ?_)
  rw [cong_Lost.t]
  refine ok_sem hF (fun L w1 he hF1 => ⟨((some ⟨w1.heap.size, 0, none⟩, 2, 2), ()), w1.alloc (.cells #[Z a2, Z a3] 3), run_buildSlice w1 54 3 2 { toList := [(0, Z a2), (1, Z a3)] } #[Z a2, Z a3] _ (Z 0) rfl rfl rfl (by decide) (by decide) (by kernel_rfl), below_alloc _ _, ?_⟩)
  have hA : ∀ (ρ : Nat → Nat) L2 w2, Ext L (w1.alloc (.cells #[Z a2, Z a3] 3)) L2 w2 → Outs ρ L2 w2 [(1001, [I a1], 3), (1002, [I a2], 3), (1003, [I a3], 3)] → ∀ j x, [a2, a3][j]? = some x → ∃ ad, some (⟨w1.heap.size, 0, none⟩ : Addr) = some ad ∧ w2.cell? (ad.add j) = some (Z x) ∧ ¬ own (fun k => match k with | 0 => ρ 1001 | 1 => ρ 1002 | 2 => ρ 1003 | _ => 0) [(0, [I a1], 3), (1, [I a2], 3), (2, [I a3], 3)] (ad.add j).block := by
    intro ρ L2 w2 he2 ho j x hj
    obtain ⟨n1, n2⟩ := new_block he.lt he2
    refine ⟨_, rfl, ?_, by rw [add_at]; exact not_own ho rfl n2⟩
    rw [add_at]
    match j, hj with
    | 0, hj => simp only [List.getElem?_cons_zero, List.getElem?_cons_succ, Option.some.injEq] at hj; subst hj; unfold World.cell?; dsimp only; rw [n1]; rfl
    | 1, hj => simp only [List.getElem?_cons_zero, List.getElem?_cons_succ, Option.some.injEq] at hj; subst hj; unfold World.cell?; dsimp only; rw [n1]; rfl
    | j + 2, hj => simp at hj
  replace hF := hF1.step (below_alloc w1 (.cells #[Z a2, Z a3] 3))
  refine ok_callT (x := ((cong_Lost.F a0_0 a0_1 a0_2 a0_3 a0_4 a1 a2 a3).1, (cong_Lost.F a0_0 a0_1 a0_2 a0_3 a0_4 a1 a2 a3).2.1, (cong_Lost.F a0_0 a0_1 a0_2 a0_3 a0_4 a1 a2 a3).2.2.1, (cong_Lost.F a0_0 a0_1 a0_2 a0_3 a0_4 a1 a2 a3).2.2.2.1, (cong_Lost.F a0_0 a0_1 a0_2 a0_3 a0_4 a1 a2 a3).2.2.2.2.1, (cong_Lost.F a0_0 a0_1 a0_2 a0_3 a0_4 a1 a2 a3).2.2.2.2.2.1, a1, a2, a3, ())) hF (fun ρ L2 w2 hp hF2 he2 ho hap => ch32.c a0_0 a0_1 a0_2 a0_3 a0_4 a1 a2 a3 a0_2 (some ⟨w1.heap.size, 0, none⟩) 2 [a2, a3] (by simp) (fun k => match k with | 0 => ρ 1001 | 1 => ρ 1002 | 2 => ρ 1003 | _ => 0) w2 (hA ρ L2 w2 he2 ho) (stand_of ho) (apart_map rfl hap)) (fun L w2 hF => ?_)
  exact ok_done hF rfl rfl
end Go.Proofs.Ytggemgbkkhpenaa.X
