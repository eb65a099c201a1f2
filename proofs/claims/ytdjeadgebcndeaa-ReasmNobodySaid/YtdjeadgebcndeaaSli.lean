/- slices.Insert and slices.Replace with one value, over owned slices. -/
import Derived.Test.YtdjeadgebcndeaaRa
import Derived.Lib.Overlaps
namespace Go.Proofs.Ytdjeadgebcndeaa.X
open Go Go.RowKit Go.Proofs.YtdjeadgebcndeaaW.Rx
set_option linter.unusedVariables false
set_option linter.unusedSimpArgs false
set_option maxRecDepth 100000 in
theorem ext28 (xs : Array Value) : extSem Try.prog 28 xs = Extern.SlicesOverlaps.overlaps #[43, 43] #[4] xs := by kernel_rfl
theorem ownO_cells {α : Type} {R : FRow α} {base e : Nat} {L : Nat → Prop} {w : World} {A : Option Addr} {c : Nat} {x : α} {l : List α} (h : OwnO base L w e R A c (x :: l)) : ∃ (a : Addr) (cur : Array Value), A = some a ∧ w.heap[a.block]? = some (.cells cur e (0, 0)) ∧ ¬ L a.block ∧ cur.size ≠ 0 := by
  rcases h with ⟨_, _, h⟩ | ⟨g, o, cur, rfl, k2, k3, k5, k6, k7, k8, k9⟩
  · cases h
  · refine ⟨_, cur, rfl, k5, k3.2, fun h0 => ?_⟩
    have h1 : 1 * R.n ≤ c * R.n := Nat.mul_le_mul_right _ (by simp only [List.length_cons] at k6; omega)
    have := R.pos
    omega
theorem ok_ovl {pin : List (Nat × Nat)} {Q : Ending → World → Prop} {J : Jt} {Lu : Nat → Prop} {wu : World} {k : Tup [Lf.b] → XT} {la ca lb cb : Nat} {tA tB : Nat} {curA curB : Array Value} (a b : Addr) (ha : wu.heap[a.block]? = some (.cells curA tA (0, 0)) ∧ ¬ Lu a.block) (hb : wu.heap[b.block]? = some (.cells curB tB (0, 0)) ∧ ¬ Lu b.block) (hne : a.block ≠ b.block) (hsz : curB.size ≠ 0)
    (hk : ∀ L w, Fine Lu wu L w → (k (false, ())).ok Try.prog pin Q J L w) : (XT.sem (extSem Try.prog 28 #[.slice (some a) la ca, .slice (some b) lb cb]) [Lf.b] Sh.one k).ok Try.prog pin Q J Lu wu := by
  rw [ext28]
  refine ok_semm (fun L w hF hlt => ⟨(false, ()), w, ?_, ⟨Nat.le_refl _, ⟨rfl, rfl, rfl⟩, fun _ _ _ => rfl⟩, hk L w hF⟩)
  have la' : a.block < wu.heap.size := (Array.getElem?_eq_some_iff.1 ha.1).1
  have lb' : b.block < wu.heap.size := (Array.getElem?_eq_some_iff.1 hb.1).1
  have h1 := (hF.keep a.block la' ha.2).trans ha.1
  have h2 := (hF.keep b.block lb' hb.2).trans hb.1
  obtain ⟨hu, i, z, hi, hz, hn, _⟩ := E43
  refine Go.Lib.run_overlaps_apart (P := Try.prog) w 43 4 51 hu i.size (fun w => by simp [sizeOf, typeInfo, hi]) a b la ca lb cb hne tA tB curA.size curB.size ?_ ?_ hsz ?_ ?_
  · simp [World.shape?, h1]
  · simp [World.shape?, h2]
  · simp [World.frozen?, h1]
  · simp [World.frozen?, h1]
theorem info51 : (Try.prog.info? 51).map (fun i => (i.zero, i.size, i.bytes)) = some (some (.agg #[.int .i64 0, .int .i64 0]), 2, 16) := by kernel_rfl
theorem zero51 : ∀ i z, Try.prog.info? 51 = some i → i.zero = some z → ∀ j, j < z.cells.size → z.cells[j]! = Value.int .i64 0 := by
  intro i z hi hz j hj
  have h := info51
  rw [hi] at h
  simp only [Option.map_some, Option.some.injEq, Prod.mk.injEq] at h
  rw [hz] at h
  obtain ⟨h, _⟩ := h
  cases h
  have hc : (Value.agg #[.int .i64 0, .int .i64 0]).cells = #[.int .i64 0, .int .i64 0] := rfl
  rw [hc] at hj ⊢
  match j, hj with
  | 0, _ => rfl
  | 1, _ => rfl
  | j + 2, hj => simp at hj; omega
set_option maxHeartbeats 4000000 in
theorem Insert43.t (A0 : Option Addr) (n0 c0 : Nat) (a1 : Int) (A2 : Option Addr) (c2 : Nat) : tree Try.prog noA noC Try.f27 [AV.v (Value.slice A0 n0 c0), AV.v (Value.int .i64 a1), AV.v (Value.slice A2 1 c2)] [] =
  .need (decide (0 ≤ a1) && decide (a1 ≤ ((n0 : Nat) : Int)) && decide (((n0 : Nat) : Int) ≤ ((n0 : Nat) : Int))) (
  bif a1 == ((n0 : Nat) : Int) then (
   .sem (Builtin.append_ { toList := [43, 43] } 43 { toList := [Value.slice A0 n0 c0, Value.slice A2 1 c2] }) ([Lf.sl]) (Sh.one) (fun x0 =>
    .done (AV.v (Value.slice x0.1.1 x0.1.2.1 x0.1.2.2)) ([])))
  else (
   bif decide (((c0 : Nat) : Int) < IntKind.wrap IntKind.i64 (((n0 : Nat) : Int) + ((1 : Nat) : Int))) then (
    .need (true && decide (0 ≤ a1) && decide (a1 ≤ ((c0 : Nat) : Int))) (
    .sem (Builtin.append_ { toList := [43, 3] } 43 { toList := [Value.slice (if ((c0 : Nat) : Int) = 0 then A0 else Option.map (fun x => Addr.add x 0) A0) (Int.toNat a1 - 0) (c0 - 0), Value.int IntKind.i64 (IntKind.wrap IntKind.i64 (IntKind.wrap IntKind.i64 (((n0 : Nat) : Int) + ((1 : Nat) : Int)) - a1))] }) ([Lf.sl]) (Sh.one) (fun x0 =>
     .need (decide (0 ≤ a1) && decide (a1 ≤ ((x0.1.2.1 : Nat) : Int)) && decide (((x0.1.2.1 : Nat) : Int) ≤ ((x0.1.2.1 : Nat) : Int))) (
     .sem (Builtin.copy_ { toList := [43, 43] } 3 { toList := [Value.slice (if ((x0.1.2.2 : Nat) : Int) = a1 then x0.1.1 else Option.map (fun x => Addr.add x (Int.toNat a1 * 2)) x0.1.1) (Int.toNat ((x0.1.2.1 : Nat) : Int) - Int.toNat a1) (x0.1.2.2 - Int.toNat a1), Value.slice A2 1 c2] }) ([Lf.i IntKind.i64]) (Sh.one) (fun x1 =>
      .need (decide (0 ≤ IntKind.wrap IntKind.i64 (a1 + ((1 : Nat) : Int))) && decide (IntKind.wrap IntKind.i64 (a1 + ((1 : Nat) : Int)) ≤ ((x0.1.2.1 : Nat) : Int)) && decide (((x0.1.2.1 : Nat) : Int) ≤ ((x0.1.2.1 : Nat) : Int))) (
      .need (decide (0 ≤ a1) && decide (a1 ≤ ((n0 : Nat) : Int)) && decide (((n0 : Nat) : Int) ≤ ((n0 : Nat) : Int))) (
      .sem (Builtin.copy_ { toList := [43, 43] } 3 { toList := [Value.slice (if ((x0.1.2.2 : Nat) : Int) = IntKind.wrap IntKind.i64 (a1 + ((1 : Nat) : Int)) then x0.1.1 else Option.map (fun x => Addr.add x (Int.toNat (IntKind.wrap IntKind.i64 (a1 + ((1 : Nat) : Int))) * 2)) x0.1.1) (Int.toNat ((x0.1.2.1 : Nat) : Int) - Int.toNat (IntKind.wrap IntKind.i64 (a1 + ((1 : Nat) : Int)))) (x0.1.2.2 - Int.toNat (IntKind.wrap IntKind.i64 (a1 + ((1 : Nat) : Int)))), Value.slice (if ((c0 : Nat) : Int) = a1 then A0 else Option.map (fun x => Addr.add x (Int.toNat a1 * 2)) A0) (Int.toNat ((n0 : Nat) : Int) - Int.toNat a1) (c0 - Int.toNat a1)] }) ([Lf.i IntKind.i64]) (Sh.one) (fun x2 =>
       .done (AV.v (Value.slice x0.1.1 x0.1.2.1 x0.1.2.2)) ([])))))))))
   else (
    .need (true && decide (0 ≤ IntKind.wrap IntKind.i64 (((n0 : Nat) : Int) + ((1 : Nat) : Int))) && decide (IntKind.wrap IntKind.i64 (((n0 : Nat) : Int) + ((1 : Nat) : Int)) ≤ ((c0 : Nat) : Int))) (
    .need (decide (0 ≤ IntKind.wrap IntKind.i64 (a1 + ((1 : Nat) : Int))) && decide (IntKind.wrap IntKind.i64 (a1 + ((1 : Nat) : Int)) ≤ (((Int.toNat (IntKind.wrap IntKind.i64 (((n0 : Nat) : Int) + ((1 : Nat) : Int))) - 0) : Nat) : Int)) && decide ((((Int.toNat (IntKind.wrap IntKind.i64 (((n0 : Nat) : Int) + ((1 : Nat) : Int))) - 0) : Nat) : Int) ≤ (((Int.toNat (IntKind.wrap IntKind.i64 (((n0 : Nat) : Int) + ((1 : Nat) : Int))) - 0) : Nat) : Int))) (
    .sem (extSem Try.prog 28 { toList := [Value.slice A2 1 c2, Value.slice (if (((c0 - 0) : Nat) : Int) = IntKind.wrap IntKind.i64 (a1 + ((1 : Nat) : Int)) then if ((c0 : Nat) : Int) = 0 then A0 else Option.map (fun x => Addr.add x 0) A0 else Option.map (fun x => Addr.add x (Int.toNat (IntKind.wrap IntKind.i64 (a1 + ((1 : Nat) : Int))) * 2)) (if ((c0 : Nat) : Int) = 0 then A0 else Option.map (fun x => Addr.add x 0) A0)) (Int.toNat (((Int.toNat (IntKind.wrap IntKind.i64 (((n0 : Nat) : Int) + ((1 : Nat) : Int))) - 0) : Nat) : Int) - Int.toNat (IntKind.wrap IntKind.i64 (a1 + ((1 : Nat) : Int)))) (c0 - 0 - Int.toNat (IntKind.wrap IntKind.i64 (a1 + ((1 : Nat) : Int))))] }) ([Lf.b]) (Sh.one) (fun x0 =>
     bif x0.1 then (
      .need (true && decide (((n0 : Nat) : Int) ≤ (((Int.toNat (IntKind.wrap IntKind.i64 (((n0 : Nat) : Int) + ((1 : Nat) : Int))) - 0) : Nat) : Int)) && decide ((((Int.toNat (IntKind.wrap IntKind.i64 (((n0 : Nat) : Int) + ((1 : Nat) : Int))) - 0) : Nat) : Int) ≤ (((Int.toNat (IntKind.wrap IntKind.i64 (((n0 : Nat) : Int) + ((1 : Nat) : Int))) - 0) : Nat) : Int))) (
      .sem (Builtin.copy_ { toList := [43, 43] } 3 { toList := [Value.slice (if (((c0 - 0) : Nat) : Int) = ((n0 : Nat) : Int) then if ((c0 : Nat) : Int) = 0 then A0 else Option.map (fun x => Addr.add x 0) A0 else Option.map (fun x => Addr.add x (Int.toNat ((n0 : Nat) : Int) * 2)) (if ((c0 : Nat) : Int) = 0 then A0 else Option.map (fun x => Addr.add x 0) A0)) (Int.toNat (((Int.toNat (IntKind.wrap IntKind.i64 (((n0 : Nat) : Int) + ((1 : Nat) : Int))) - 0) : Nat) : Int) - Int.toNat ((n0 : Nat) : Int)) (c0 - 0 - Int.toNat ((n0 : Nat) : Int)), Value.slice A2 1 c2] }) ([Lf.i IntKind.i64]) (Sh.one) (fun x1 =>
       .need (decide (0 ≤ a1) && decide (a1 ≤ (((Int.toNat (IntKind.wrap IntKind.i64 (((n0 : Nat) : Int) + ((1 : Nat) : Int))) - 0) : Nat) : Int)) && decide ((((Int.toNat (IntKind.wrap IntKind.i64 (((n0 : Nat) : Int) + ((1 : Nat) : Int))) - 0) : Nat) : Int) ≤ (((Int.toNat (IntKind.wrap IntKind.i64 (((n0 : Nat) : Int) + ((1 : Nat) : Int))) - 0) : Nat) : Int))) (
       .call 29 ([AV.v (Value.slice (if (((c0 - 0) : Nat) : Int) = a1 then if ((c0 : Nat) : Int) = 0 then A0 else Option.map (fun x => Addr.add x 0) A0 else Option.map (fun x => Addr.add x (Int.toNat a1 * 2)) (if ((c0 : Nat) : Int) = 0 then A0 else Option.map (fun x => Addr.add x 0) A0)) (Int.toNat (((Int.toNat (IntKind.wrap IntKind.i64 (((n0 : Nat) : Int) + ((1 : Nat) : Int))) - 0) : Nat) : Int) - Int.toNat a1) (c0 - 0 - Int.toNat a1)), AV.v (Value.int IntKind.i64 ((1 : Nat) : Int))]) ([]) (Sh.tup []) ([]) ([]) (fun x2 =>
        .done (AV.v (Value.slice (if ((c0 : Nat) : Int) = 0 then A0 else Option.map (fun x => Addr.add x 0) A0) (Int.toNat (IntKind.wrap IntKind.i64 (((n0 : Nat) : Int) + ((1 : Nat) : Int))) - 0) (c0 - 0))) ([]))))))
     else (
      .need (decide (0 ≤ IntKind.wrap IntKind.i64 (a1 + ((1 : Nat) : Int))) && decide (IntKind.wrap IntKind.i64 (a1 + ((1 : Nat) : Int)) ≤ (((Int.toNat (IntKind.wrap IntKind.i64 (((n0 : Nat) : Int) + ((1 : Nat) : Int))) - 0) : Nat) : Int)) && decide ((((Int.toNat (IntKind.wrap IntKind.i64 (((n0 : Nat) : Int) + ((1 : Nat) : Int))) - 0) : Nat) : Int) ≤ (((Int.toNat (IntKind.wrap IntKind.i64 (((n0 : Nat) : Int) + ((1 : Nat) : Int))) - 0) : Nat) : Int))) (
      .need (decide (0 ≤ a1) && decide (a1 ≤ (((Int.toNat (IntKind.wrap IntKind.i64 (((n0 : Nat) : Int) + ((1 : Nat) : Int))) - 0) : Nat) : Int)) && decide ((((Int.toNat (IntKind.wrap IntKind.i64 (((n0 : Nat) : Int) + ((1 : Nat) : Int))) - 0) : Nat) : Int) ≤ (((Int.toNat (IntKind.wrap IntKind.i64 (((n0 : Nat) : Int) + ((1 : Nat) : Int))) - 0) : Nat) : Int))) (
      .sem (Builtin.copy_ { toList := [43, 43] } 3 { toList := [Value.slice (if (((c0 - 0) : Nat) : Int) = IntKind.wrap IntKind.i64 (a1 + ((1 : Nat) : Int)) then if ((c0 : Nat) : Int) = 0 then A0 else Option.map (fun x => Addr.add x 0) A0 else Option.map (fun x => Addr.add x (Int.toNat (IntKind.wrap IntKind.i64 (a1 + ((1 : Nat) : Int))) * 2)) (if ((c0 : Nat) : Int) = 0 then A0 else Option.map (fun x => Addr.add x 0) A0)) (Int.toNat (((Int.toNat (IntKind.wrap IntKind.i64 (((n0 : Nat) : Int) + ((1 : Nat) : Int))) - 0) : Nat) : Int) - Int.toNat (IntKind.wrap IntKind.i64 (a1 + ((1 : Nat) : Int)))) (c0 - 0 - Int.toNat (IntKind.wrap IntKind.i64 (a1 + ((1 : Nat) : Int)))), Value.slice (if (((c0 - 0) : Nat) : Int) = a1 then if ((c0 : Nat) : Int) = 0 then A0 else Option.map (fun x => Addr.add x 0) A0 else Option.map (fun x => Addr.add x (Int.toNat a1 * 2)) (if ((c0 : Nat) : Int) = 0 then A0 else Option.map (fun x => Addr.add x 0) A0)) (Int.toNat (((Int.toNat (IntKind.wrap IntKind.i64 (((n0 : Nat) : Int) + ((1 : Nat) : Int))) - 0) : Nat) : Int) - Int.toNat a1) (c0 - 0 - Int.toNat a1)] }) ([Lf.i IntKind.i64]) (Sh.one) (fun x1 =>
       .need (decide (0 ≤ a1) && decide (a1 ≤ (((Int.toNat (IntKind.wrap IntKind.i64 (((n0 : Nat) : Int) + ((1 : Nat) : Int))) - 0) : Nat) : Int)) && decide ((((Int.toNat (IntKind.wrap IntKind.i64 (((n0 : Nat) : Int) + ((1 : Nat) : Int))) - 0) : Nat) : Int) ≤ (((Int.toNat (IntKind.wrap IntKind.i64 (((n0 : Nat) : Int) + ((1 : Nat) : Int))) - 0) : Nat) : Int))) (
       .sem (Builtin.copy_ { toList := [43, 43] } 3 { toList := [Value.slice (if (((c0 - 0) : Nat) : Int) = a1 then if ((c0 : Nat) : Int) = 0 then A0 else Option.map (fun x => Addr.add x 0) A0 else Option.map (fun x => Addr.add x (Int.toNat a1 * 2)) (if ((c0 : Nat) : Int) = 0 then A0 else Option.map (fun x => Addr.add x 0) A0)) (Int.toNat (((Int.toNat (IntKind.wrap IntKind.i64 (((n0 : Nat) : Int) + ((1 : Nat) : Int))) - 0) : Nat) : Int) - Int.toNat a1) (c0 - 0 - Int.toNat a1), Value.slice A2 1 c2] }) ([Lf.i IntKind.i64]) (Sh.one) (fun x2 =>
        .done (AV.v (Value.slice (if ((c0 : Nat) : Int) = 0 then A0 else Option.map (fun x => Addr.add x 0) A0) (Int.toNat (IntKind.wrap IntKind.i64 (((n0 : Nat) : Int) + ((1 : Nat) : Int))) - 0) (c0 - 0))) ([]))))))))))))) := by kernel_rfl
theorem fin_dest {A : Option Addr} {c i m : Nat} (h : ¬ c = i) : (if ((c : Nat) : Int) = ((i : Nat) : Int) then A else A.map (fun x => Addr.add x (i * m))) = A.map (fun x => Addr.add x (i * m)) := if_neg (by omega)
theorem ins_eq {α : Type} (xs : List α) (i : Nat) (x : α) (hi : i ≤ xs.length) (zr : List α) (hz : zr.length = xs.length + 1 - i) : ((((xs.take i ++ zr).take i ++ [x] ++ (xs.take i ++ zr).drop (i + [x].length)).take (i + 1)) ++ xs.drop i ++ ((xs.take i ++ zr).take i ++ [x] ++ (xs.take i ++ zr).drop (i + [x].length)).drop (i + 1 + (xs.drop i).length)) = xs.take i ++ [x] ++ xs.drop i := by
  have l1 : (xs.take i).length = i := by rw [List.length_take]; omega
  have e1 : (xs.take i ++ zr).take i = xs.take i := by rw [List.take_append_of_le_length (by omega), List.take_of_length_le (by omega)]
  rw [e1]
  have l2 : (xs.take i ++ [x]).length = i + 1 := by rw [List.length_append, l1]; rfl
  rw [List.take_append_of_le_length (by omega), List.take_of_length_le (by omega)]
  have e2 : (xs.take i ++ [x] ++ (xs.take i ++ zr).drop (i + [x].length)).drop (i + 1 + (xs.drop i).length) = [] := by
    apply List.drop_of_length_le
    simp only [List.length_append, List.length_drop, List.length_take, List.length_cons, List.length_nil, hz]; omega
  rw [e2, List.append_nil]
theorem ins_eq2 {α : Type} (xs : List α) (i : Nat) (x : α) (hi : i < xs.length) : ((xs.take (i + 1) ++ xs.drop i ++ xs.drop (i + 1 + (xs.drop i).length)).take i ++ [x] ++ (xs.take (i + 1) ++ xs.drop i ++ xs.drop (i + 1 + (xs.drop i).length)).drop (i + [x].length)) = xs.take i ++ [x] ++ xs.drop i := by
  have e0 : xs.drop (i + 1 + (xs.drop i).length) = [] := by apply List.drop_of_length_le; rw [List.length_drop]; omega
  rw [e0, List.append_nil]
  have l1 : (xs.take (i + 1)).length = i + 1 := by rw [List.length_take]; omega
  rw [List.take_append_of_le_length (by omega), List.take_take, Nat.min_eq_left (by omega), List.drop_append_of_le_length (by rw [l1]; simp), List.drop_of_length_le (by rw [l1]; simp), List.nil_append]
set_option maxHeartbeats 4000000 in
theorem Insert43.c (A : Option Addr) (c : Nat) (xs : List _) (i : Nat) (A2 : Option Addr) (c2 : Nat) (x : _) (hi : i ≤ xs.length) (hsz : (xs.length + 1) * 16 ≤ 140737488355328) (w : World) (ho : OwnO 0 (fun _ => False) w 51 R43 A c xs) (hs : OwnO 0 (blk (A, 0, 0)) w 51 R43 A2 c2 [x]) :
    Calls Try.prog 27 #[.slice A xs.length c, .int .i64 i, .slice A2 1 c2] w fun e w' => ∃ (A' : Option Addr) (c' : Nat), e = .returned (.slice A' (xs.take i ++ [x] ++ xs.drop i).length c') ∧ OwnO 0 (fun _ => False) w' 51 R43 A' c' (xs.take i ++ [x] ++ xs.drop i) ∧ Fine (blk (A, 0, 0)) w (blk (A, 0, 0)) w' ∧ (∀ b, blk (A', 0, 0) b → blk (A, 0, 0) b ∨ w.heap.size ≤ b) := by
  have hcap := ho.sl.2.1
  have hcm : c ≤ maxLen := by
    rcases ho with ⟨_, rfl, _⟩ | ⟨_, _, _, _, _, _, _, _, h, _⟩
    · exact Nat.zero_le _
    · exact h
  simp only [maxLen] at hcm
  have w1 : IntKind.i64.wrap ((xs.length : Int) + ((1 : Nat) : Int)) = ((xs.length + 1 : Nat) : Int) := by rw [wrap_in] <;> omega
  have w2 : IntKind.i64.wrap ((i : Int) + ((1 : Nat) : Int)) = ((i + 1 : Nat) : Int) := by rw [wrap_in] <;> omega
  have w3 : IntKind.i64.wrap (((xs.length + 1 : Nat) : Int) - (i : Int)) = ((xs.length + 1 - i : Nat) : Int) := by rw [wrap_in] <;> omega
  have hlen : (xs.take i ++ [x] ++ xs.drop i).length = xs.length + 1 := by simp only [List.length_append, List.length_take, List.length_drop, List.length_cons, List.length_nil]; omega
  refine enter0 mixed noA noC [AV.v (Value.slice A xs.length c), AV.v (Value.int .i64 i), AV.v (Value.slice A2 1 c2)] Try.func27 rfl rfl rfl (fun hF0 => ?_)
  rw [Insert43.t]
  have hF : Fine (blk (A, 0, 0)) w (fun _ => False) w := ⟨rfl, rfl, rfl, Nat.le_refl _, fun _ _ _ => rfl, fun b h => h.elim⟩
  simp only [w1, w2, w3, Int.toNat_natCast, Nat.sub_zero, if_add0]
  have fin : ∀ {L : Nat → Prop} {w1 w' : World} {L' : Nat → Prop} {A' : Option Addr} {c' n' : Nat} (hO : OwnO 0 L w1 51 R43 A' c' (xs.take i ++ [x] ++ xs.drop i)) (hF : Fine (blk (A, 0, 0)) w L w1) (hb : ∀ b, blk (A', 0, 0) b → blk (A, 0, 0) b ∨ w.heap.size ≤ b) (hn : n' = xs.length + 1) (he : Ext L w1 L' w'), ∃ (A'' : Option Addr) (c'' : Nat), (Ending.returned (Value.slice A' n' c') = .returned (.slice A'' (xs.take i ++ [x] ++ xs.drop i).length c'')) ∧ OwnO 0 (fun _ => False) w' 51 R43 A'' c'' (xs.take i ++ [x] ++ xs.drop i) ∧ Fine (blk (A, 0, 0)) w (blk (A, 0, 0)) w' ∧ (∀ b, blk (A'', 0, 0) b → blk (A, 0, 0) b ∨ w.heap.size ≤ b) := by
    intro L w1 w' L' A' c' n' hO hF hb hn he
    subst hn
    exact ⟨A', c', by rw [hlen], (hO.later he.fine).bare', (hF.ext he).with (fun b h => Or.inl h), hb⟩
  refine ok_need (by simp; omega) ?_
  refine ok_if (fun hc => ?_) (fun hc => ?_)
  · obtain rfl : i = xs.length := by
      have h : (i : Int) = (xs.length : Int) := by simpa using hc
      omega
    have el : xs.take xs.length ++ [x] ++ xs.drop xs.length = xs ++ [x] := by simp
    rw [el] at fin
    cases hA : A with
    | none =>
      subst hA
      have hx : xs = [] := by rcases ho with ⟨_, _, h⟩ | ⟨_, _, _, h, _⟩; exact h; cases h
      subst hx
      have hc0 : c = 0 := by rcases ho with ⟨_, h, _⟩ | ⟨_, _, _, h, _⟩; exact h; cases h
      subst hc0
      refine ok_app (R := R43) (base := 0) (xs := []) (ys := [x]) rfl rfl E43 (OwnF.nil _ _ _ _ _) (hs.later hF).sl (by decide) (by simp) (Nat.zero_le _) (fun A' c' L1 w1 hO g hid hbl => ?_)
      have hF := Fine.own hF g (fun b hb => by obtain ⟨_, hb, _⟩ := hb; cases hb) hid
      intro ρ L w' _ he _ _
      rw [el]
      exact fin hO.off hF (fun b hb => (hbl b hb).imp id id) rfl he
    | some a =>
      subst hA
      refine ok_appO (R := R43) (base := 0) (xs := xs) (ys := [x]) rfl rfl E43 ho rfl (hs.later hF).sl (by simp) (by simp only [maxLen, List.length_cons, List.length_nil]; omega) (by simpa using hsz) (Nat.zero_le _) (fun A' c' L1 w1 hO g hid hbl => ?_)
      have hF := Fine.own hF g (fun b hb => Or.inl hb) hid
      intro ρ L w' _ he _ _
      rw [el]
      exact fin hO hF (fun b hb => (hbl b hb).imp id id) (by simp) he
  · have hlt : i < xs.length := by
      have : ¬ (i : Int) = (xs.length : Int) := by simpa using hc
      omega
    have hA : A.isSome = true := ho.sl.some (by omega)
    obtain ⟨a, rfl⟩ := Option.isSome_iff_exists.1 hA
    have hdrop : (xs.drop i).length = xs.length - i := List.length_drop
    have hxd : ∀ {L w1}, SlR R43.row L w1 (some a) c xs → SlR R43.row L w1 (if ((c : Nat) : Int) = ((i : Nat) : Int) then some a else Option.map (fun x => Addr.add x (i * 2)) (some a)) (c - i) (xs.drop i) := fun {L w1} h => by
      have := h.sub (i : Int) (xs.length : Int) (by omega) (by omega) (by omega)
      have e : ((xs.drop (i : Int).toNat).take ((xs.length : Int).toNat - (i : Int).toNat)) = xs.drop i := by
        rw [Int.toNat_natCast, Int.toNat_natCast]; exact List.take_of_length_le (by rw [List.length_drop]; exact Nat.le_refl _)
      rw [e] at this
      exact this
    refine ok_if (fun hg => ?_) (fun hg => ?_)
    · have hg : c < xs.length + 1 := by
        have h : (c : Int) < (xs.length : Int) + 1 := by simpa using hg
        omega
      refine ok_need (by simp; omega) ?_
      have htl : (xs.take i).length = i := by rw [List.length_take]; omega
      have hst : SlR R43.row (fun _ => False) w (some a) c (xs.take i) := by
        have := ho.sl.sub 0 (i : Int) (by omega) (by omega) (by omega)
        simp only [Int.toNat_zero, List.drop_zero, Int.toNat_natCast, Nat.sub_zero, Nat.zero_mul, if_add0] at this
        exact this
      refine ok_appZ (R := R43) (base := 0) (xs := xs.take i) (m := xs.length + 1 - i) (0, 0) (.int .i64 0) E43 rfl rfl zero51 htl.symm hst rfl (by omega) (by rw [htl]; omega) (by rw [htl]; simp only [maxLen]; omega) (by rw [htl]; refine Nat.le_trans (Nat.mul_le_mul_right _ ?_) hsz; omega) (Nat.zero_le _) (fun A' c' L1 w1 hO g hbl => ?_)
      have hFz := hF.trans g
      obtain ⟨zr, hzr⟩ : ∃ zr, zr = List.replicate (xs.length + 1 - i) ((0, 0) : Int × Int) := ⟨_, rfl⟩
      have hzl : zr.length = xs.length + 1 - i := by rw [hzr]; simp
      rw [← hzr] at hO ⊢
      have hL0 : (xs.take i ++ zr).length = xs.length + 1 := by rw [List.length_append, htl, hzl]; omega
      have hc' := hO.sl.2.1
      rw [hL0] at hc'
      dsimp only
      rw [hL0]
      have hds : Dj A' (some a) := Dj.new hbl (ho.lt1)
      have ho1 := ho.later g
      refine ok_need (by simp; omega) ?_
      refine ok_copyC i E43 hO (hs.later hFz).sl (by simp only [List.length_cons, List.length_nil]; omega) (by rw [hL0]; omega) (by simp only [List.length_cons, List.length_nil]; omega) (fun _ => fin_dest (by omega)) (fun L2 w2 hO2 g2 hid2 => ?_)
      have hFz := Fine.own hFz g2 (fun b hb => Or.inr (hbl b hb)) hid2
      have ho2 := ho1.other hds.symm g2
      refine ok_need (by simp; omega) (ok_need (by simp; omega) ?_)
      refine ok_copyC (ys := xs.drop i) (i + 1) E43 hO2 (hxd ho2.sl) (by rw [hdrop]; omega) (by simp only [List.length_append, List.length_take, List.length_drop, List.length_cons, List.length_nil, hzl]; omega) (by rw [hdrop]; omega) (fun _ => fin_dest (by omega)) (fun L3 w3 hO3 g3 hid3 => ?_)
      have hFz := Fine.own hFz g3 (fun b hb => Or.inr (hbl b hb)) hid3
      rw [ins_eq xs i x hi zr hzl] at hO3
      intro ρ L w' _ he _ _
      exact fin hO3 hFz (fun b hb => Or.inr (hbl b hb)) rfl he
    · have hg : xs.length + 1 ≤ c := by
        have h : (xs.length : Int) + 1 ≤ (c : Int) := by simpa using hg
        omega
      refine ok_need (by simp; omega) (ok_need (by simp; omega) ?_)
      have hif : ∀ j : Nat, j ≤ xs.length → (if ((c : Nat) : Int) = ((j : Nat) : Int) then some a else Option.map (fun x => Addr.add x (j * 2)) (some a)) = some (a.add (j * 2)) := fun j hj => by rw [if_neg (by omega)]; rfl
      rw [hif (i + 1) (by omega)]
      obtain ⟨a2, cur2, ha2, hb2, hn2, _⟩ := ownO_cells hs
      obtain ⟨a1, cur1, ha1, hb1, hn1, hz1⟩ : ∃ (a1 : Addr) (cur1 : Array Value), some a = some a1 ∧ w.heap[a1.block]? = some (.cells cur1 51 (0, 0)) ∧ ¬ (fun _ => False) a1.block ∧ cur1.size ≠ 0 := by
        cases xs with
        | nil => simp at hlt
        | cons y r => exact ownO_cells ho
      cases ha1
      have hne : a2.block ≠ a.block := fun e => hn2 ⟨a, rfl, e.symm⟩
      rw [ha2]
      refine ok_ovl a2 (a.add ((i + 1) * 2)) ⟨hb2, fun h => h⟩ ⟨by rw [block_add]; exact hb1, fun h => h⟩ (by rw [block_add]; exact hne) hz1 (fun L1 w1 g1 => ?_)
      rw [← ha2]
      have hF1 := hF.trans g1
      have ho1 := ho.later g1
      refine ok_if (fun hc => by cases hc) (fun hc => ?_)
      refine ok_need (by simp; omega) (ok_need (by simp; omega) ?_)
      refine ok_copyC (ys := xs.drop i) (i + 1) E43 ho1 (hxd ho1.sl) (by rw [hdrop]; omega) (by omega) (by rw [hdrop]; omega) (fun _ => rfl) (fun L2 w2 hO2 g2 hid2 => ?_)
      have hF2 := Fine.own hF1 g2 (fun b hb => Or.inl hb) hid2
      refine ok_need (by simp; omega) ?_
      rw [hif i (by omega)]
      refine ok_copyC (ys := [x]) i E43 hO2 (hs.later hF2).sl (by simp only [List.length_cons, List.length_nil]; omega) (by simp only [List.length_append, List.length_take, List.length_drop]; omega) (by simp only [List.length_cons, List.length_nil]; omega) (fun _ => rfl) (fun L3 w3 hO3 g3 hid3 => ?_)
      have hF3 := Fine.own hF2 g3 (fun b hb => Or.inl hb) hid3
      rw [ins_eq2 xs i x hlt] at hO3
      intro ρ L w' _ he _ _
      exact fin hO3 hF3 (fun b hb => Or.inl hb) rfl he
set_option maxHeartbeats 4000000 in
theorem Replace43.t (A0 : Option Addr) (n0 c0 : Nat) (a1 a2 : Int) (A3 : Option Addr) (c3 : Nat) : tree Try.prog noA noC Try.f26 [AV.v (Value.slice A0 n0 c0), AV.v (Value.int .i64 a1), AV.v (Value.int .i64 a2), AV.v (Value.slice A3 1 c3)] [] =
  .need (decide (0 ≤ a1) && decide (a1 ≤ a2) && decide (a2 ≤ ((c0 : Nat) : Int))) (
  bif a1 == a2 then (
   .call 27 ([AV.v (Value.slice A0 n0 c0), AV.v (Value.int IntKind.i64 a1), AV.v (Value.slice A3 1 c3)]) ([]) (Sh.one) ([Lf.sl]) ([]) (fun x0 =>
    .done (AV.v (Value.slice x0.1.1 x0.1.2.1 x0.1.2.2)) ([])))
  else (
   bif a2 == ((n0 : Nat) : Int) then (
    .need (true && decide (0 ≤ a1) && decide (a1 ≤ ((c0 : Nat) : Int))) (
    .sem (Builtin.append_ { toList := [43, 43] } 43 { toList := [Value.slice (if ((c0 : Nat) : Int) = 0 then A0 else Option.map (fun x => Addr.add x 0) A0) (Int.toNat a1 - 0) (c0 - 0), Value.slice A3 1 c3] }) ([Lf.sl]) (Sh.one) (fun x0 =>
     bif decide (((x0.1.2.1 : Nat) : Int) < ((n0 : Nat) : Int)) then (
      .need (true && decide (((x0.1.2.1 : Nat) : Int) ≤ ((n0 : Nat) : Int)) && decide (((n0 : Nat) : Int) ≤ ((n0 : Nat) : Int))) (
      .sem (Builtin.clear_ { toList := [43] } 0 { toList := [Value.slice (if ((c0 : Nat) : Int) = ((x0.1.2.1 : Nat) : Int) then A0 else Option.map (fun x => Addr.add x (Int.toNat ((x0.1.2.1 : Nat) : Int) * 2)) A0) (Int.toNat ((n0 : Nat) : Int) - Int.toNat ((x0.1.2.1 : Nat) : Int)) (c0 - Int.toNat ((x0.1.2.1 : Nat) : Int))] }) ([]) (Sh.tup []) (fun x1 =>
       .done (AV.v (Value.slice x0.1.1 x0.1.2.1 x0.1.2.2)) ([]))))
     else (
      .done (AV.v (Value.slice x0.1.1 x0.1.2.1 x0.1.2.2)) ([])))))
   else (
    .need (true && decide (0 ≤ a1) && decide (a1 ≤ ((c0 : Nat) : Int))) (
    .need (decide (0 ≤ a2) && decide (a2 ≤ ((n0 : Nat) : Int)) && decide (((n0 : Nat) : Int) ≤ ((n0 : Nat) : Int))) (
    bif decide (((c0 : Nat) : Int) < IntKind.wrap IntKind.i64 (IntKind.wrap IntKind.i64 ((((Int.toNat a1 - 0) : Nat) : Int) + ((1 : Nat) : Int)) + (((Int.toNat ((n0 : Nat) : Int) - Int.toNat a2) : Nat) : Int))) then (
     .need (true && decide (0 ≤ a1) && decide (a1 ≤ ((c0 : Nat) : Int))) (
     .sem (Builtin.append_ { toList := [43, 3] } 43 { toList := [Value.slice (if ((c0 : Nat) : Int) = 0 then A0 else Option.map (fun x => Addr.add x 0) A0) (Int.toNat a1 - 0) (c0 - 0), Value.int IntKind.i64 (IntKind.wrap IntKind.i64 (IntKind.wrap IntKind.i64 (IntKind.wrap IntKind.i64 ((((Int.toNat a1 - 0) : Nat) : Int) + ((1 : Nat) : Int)) + (((Int.toNat ((n0 : Nat) : Int) - Int.toNat a2) : Nat) : Int)) - a1))] }) ([Lf.sl]) (Sh.one) (fun x0 =>
      .need (decide (0 ≤ a1) && decide (a1 ≤ ((x0.1.2.1 : Nat) : Int)) && decide (((x0.1.2.1 : Nat) : Int) ≤ ((x0.1.2.1 : Nat) : Int))) (
      .sem (Builtin.copy_ { toList := [43, 43] } 3 { toList := [Value.slice (if ((x0.1.2.2 : Nat) : Int) = a1 then x0.1.1 else Option.map (fun x => Addr.add x (Int.toNat a1 * 2)) x0.1.1) (Int.toNat ((x0.1.2.1 : Nat) : Int) - Int.toNat a1) (x0.1.2.2 - Int.toNat a1), Value.slice A3 1 c3] }) ([Lf.i IntKind.i64]) (Sh.one) (fun x1 =>
       .need (decide (0 ≤ IntKind.wrap IntKind.i64 (a1 + ((1 : Nat) : Int))) && decide (IntKind.wrap IntKind.i64 (a1 + ((1 : Nat) : Int)) ≤ ((x0.1.2.1 : Nat) : Int)) && decide (((x0.1.2.1 : Nat) : Int) ≤ ((x0.1.2.1 : Nat) : Int))) (
       .need (decide (0 ≤ a2) && decide (a2 ≤ ((n0 : Nat) : Int)) && decide (((n0 : Nat) : Int) ≤ ((n0 : Nat) : Int))) (
       .sem (Builtin.copy_ { toList := [43, 43] } 3 { toList := [Value.slice (if ((x0.1.2.2 : Nat) : Int) = IntKind.wrap IntKind.i64 (a1 + ((1 : Nat) : Int)) then x0.1.1 else Option.map (fun x => Addr.add x (Int.toNat (IntKind.wrap IntKind.i64 (a1 + ((1 : Nat) : Int))) * 2)) x0.1.1) (Int.toNat ((x0.1.2.1 : Nat) : Int) - Int.toNat (IntKind.wrap IntKind.i64 (a1 + ((1 : Nat) : Int)))) (x0.1.2.2 - Int.toNat (IntKind.wrap IntKind.i64 (a1 + ((1 : Nat) : Int)))), Value.slice (if ((c0 : Nat) : Int) = a2 then A0 else Option.map (fun x => Addr.add x (Int.toNat a2 * 2)) A0) (Int.toNat ((n0 : Nat) : Int) - Int.toNat a2) (c0 - Int.toNat a2)] }) ([Lf.i IntKind.i64]) (Sh.one) (fun x2 =>
        .done (AV.v (Value.slice x0.1.1 x0.1.2.1 x0.1.2.2)) ([])))))))))
    else (
     .need (true && decide (0 ≤ IntKind.wrap IntKind.i64 (IntKind.wrap IntKind.i64 ((((Int.toNat a1 - 0) : Nat) : Int) + ((1 : Nat) : Int)) + (((Int.toNat ((n0 : Nat) : Int) - Int.toNat a2) : Nat) : Int))) && decide (IntKind.wrap IntKind.i64 (IntKind.wrap IntKind.i64 ((((Int.toNat a1 - 0) : Nat) : Int) + ((1 : Nat) : Int)) + (((Int.toNat ((n0 : Nat) : Int) - Int.toNat a2) : Nat) : Int)) ≤ ((c0 : Nat) : Int))) (
     bif decide (IntKind.wrap IntKind.i64 (a1 + ((1 : Nat) : Int)) ≤ a2) then (
      .need (decide (0 ≤ a1) && decide (a1 ≤ (((Int.toNat (IntKind.wrap IntKind.i64 (IntKind.wrap IntKind.i64 ((((Int.toNat a1 - 0) : Nat) : Int) + ((1 : Nat) : Int)) + (((Int.toNat ((n0 : Nat) : Int) - Int.toNat a2) : Nat) : Int))) - 0) : Nat) : Int)) && decide ((((Int.toNat (IntKind.wrap IntKind.i64 (IntKind.wrap IntKind.i64 ((((Int.toNat a1 - 0) : Nat) : Int) + ((1 : Nat) : Int)) + (((Int.toNat ((n0 : Nat) : Int) - Int.toNat a2) : Nat) : Int))) - 0) : Nat) : Int) ≤ (((Int.toNat (IntKind.wrap IntKind.i64 (IntKind.wrap IntKind.i64 ((((Int.toNat a1 - 0) : Nat) : Int) + ((1 : Nat) : Int)) + (((Int.toNat ((n0 : Nat) : Int) - Int.toNat a2) : Nat) : Int))) - 0) : Nat) : Int))) (
      .sem (Builtin.copy_ { toList := [43, 43] } 3 { toList := [Value.slice (if (((c0 - 0) : Nat) : Int) = a1 then if ((c0 : Nat) : Int) = 0 then A0 else Option.map (fun x => Addr.add x 0) A0 else Option.map (fun x => Addr.add x (Int.toNat a1 * 2)) (if ((c0 : Nat) : Int) = 0 then A0 else Option.map (fun x => Addr.add x 0) A0)) (Int.toNat (((Int.toNat (IntKind.wrap IntKind.i64 (IntKind.wrap IntKind.i64 ((((Int.toNat a1 - 0) : Nat) : Int) + ((1 : Nat) : Int)) + (((Int.toNat ((n0 : Nat) : Int) - Int.toNat a2) : Nat) : Int))) - 0) : Nat) : Int) - Int.toNat a1) (c0 - 0 - Int.toNat a1), Value.slice A3 1 c3] }) ([Lf.i IntKind.i64]) (Sh.one) (fun x0 =>
       .need (decide (0 ≤ IntKind.wrap IntKind.i64 (a1 + ((1 : Nat) : Int))) && decide (IntKind.wrap IntKind.i64 (a1 + ((1 : Nat) : Int)) ≤ (((Int.toNat (IntKind.wrap IntKind.i64 (IntKind.wrap IntKind.i64 ((((Int.toNat a1 - 0) : Nat) : Int) + ((1 : Nat) : Int)) + (((Int.toNat ((n0 : Nat) : Int) - Int.toNat a2) : Nat) : Int))) - 0) : Nat) : Int)) && decide ((((Int.toNat (IntKind.wrap IntKind.i64 (IntKind.wrap IntKind.i64 ((((Int.toNat a1 - 0) : Nat) : Int) + ((1 : Nat) : Int)) + (((Int.toNat ((n0 : Nat) : Int) - Int.toNat a2) : Nat) : Int))) - 0) : Nat) : Int) ≤ (((Int.toNat (IntKind.wrap IntKind.i64 (IntKind.wrap IntKind.i64 ((((Int.toNat a1 - 0) : Nat) : Int) + ((1 : Nat) : Int)) + (((Int.toNat ((n0 : Nat) : Int) - Int.toNat a2) : Nat) : Int))) - 0) : Nat) : Int))) (
       .need (decide (0 ≤ a2) && decide (a2 ≤ ((n0 : Nat) : Int)) && decide (((n0 : Nat) : Int) ≤ ((n0 : Nat) : Int))) (
       .sem (Builtin.copy_ { toList := [43, 43] } 3 { toList := [Value.slice (if (((c0 - 0) : Nat) : Int) = IntKind.wrap IntKind.i64 (a1 + ((1 : Nat) : Int)) then if ((c0 : Nat) : Int) = 0 then A0 else Option.map (fun x => Addr.add x 0) A0 else Option.map (fun x => Addr.add x (Int.toNat (IntKind.wrap IntKind.i64 (a1 + ((1 : Nat) : Int))) * 2)) (if ((c0 : Nat) : Int) = 0 then A0 else Option.map (fun x => Addr.add x 0) A0)) (Int.toNat (((Int.toNat (IntKind.wrap IntKind.i64 (IntKind.wrap IntKind.i64 ((((Int.toNat a1 - 0) : Nat) : Int) + ((1 : Nat) : Int)) + (((Int.toNat ((n0 : Nat) : Int) - Int.toNat a2) : Nat) : Int))) - 0) : Nat) : Int) - Int.toNat (IntKind.wrap IntKind.i64 (a1 + ((1 : Nat) : Int)))) (c0 - 0 - Int.toNat (IntKind.wrap IntKind.i64 (a1 + ((1 : Nat) : Int)))), Value.slice (if ((c0 : Nat) : Int) = a2 then A0 else Option.map (fun x => Addr.add x (Int.toNat a2 * 2)) A0) (Int.toNat ((n0 : Nat) : Int) - Int.toNat a2) (c0 - Int.toNat a2)] }) ([Lf.i IntKind.i64]) (Sh.one) (fun x1 =>
        .need (decide (0 ≤ IntKind.wrap IntKind.i64 (IntKind.wrap IntKind.i64 ((((Int.toNat a1 - 0) : Nat) : Int) + ((1 : Nat) : Int)) + (((Int.toNat ((n0 : Nat) : Int) - Int.toNat a2) : Nat) : Int))) && decide (IntKind.wrap IntKind.i64 (IntKind.wrap IntKind.i64 ((((Int.toNat a1 - 0) : Nat) : Int) + ((1 : Nat) : Int)) + (((Int.toNat ((n0 : Nat) : Int) - Int.toNat a2) : Nat) : Int)) ≤ ((n0 : Nat) : Int)) && decide (((n0 : Nat) : Int) ≤ ((n0 : Nat) : Int))) (
        .sem (Builtin.clear_ { toList := [43] } 0 { toList := [Value.slice (if ((c0 : Nat) : Int) = IntKind.wrap IntKind.i64 (IntKind.wrap IntKind.i64 ((((Int.toNat a1 - 0) : Nat) : Int) + ((1 : Nat) : Int)) + (((Int.toNat ((n0 : Nat) : Int) - Int.toNat a2) : Nat) : Int)) then A0 else Option.map (fun x => Addr.add x (Int.toNat (IntKind.wrap IntKind.i64 (IntKind.wrap IntKind.i64 ((((Int.toNat a1 - 0) : Nat) : Int) + ((1 : Nat) : Int)) + (((Int.toNat ((n0 : Nat) : Int) - Int.toNat a2) : Nat) : Int))) * 2)) A0) (Int.toNat ((n0 : Nat) : Int) - Int.toNat (IntKind.wrap IntKind.i64 (IntKind.wrap IntKind.i64 ((((Int.toNat a1 - 0) : Nat) : Int) + ((1 : Nat) : Int)) + (((Int.toNat ((n0 : Nat) : Int) - Int.toNat a2) : Nat) : Int)))) (c0 - Int.toNat (IntKind.wrap IntKind.i64 (IntKind.wrap IntKind.i64 ((((Int.toNat a1 - 0) : Nat) : Int) + ((1 : Nat) : Int)) + (((Int.toNat ((n0 : Nat) : Int) - Int.toNat a2) : Nat) : Int))))] }) ([]) (Sh.tup []) (fun x2 =>
         .done (AV.v (Value.slice (if ((c0 : Nat) : Int) = 0 then A0 else Option.map (fun x => Addr.add x 0) A0) (Int.toNat (IntKind.wrap IntKind.i64 (IntKind.wrap IntKind.i64 ((((Int.toNat a1 - 0) : Nat) : Int) + ((1 : Nat) : Int)) + (((Int.toNat ((n0 : Nat) : Int) - Int.toNat a2) : Nat) : Int))) - 0) (c0 - 0))) ([])))))))))
     else (
      .need (decide (0 ≤ IntKind.wrap IntKind.i64 (a1 + ((1 : Nat) : Int))) && decide (IntKind.wrap IntKind.i64 (a1 + ((1 : Nat) : Int)) ≤ (((Int.toNat (IntKind.wrap IntKind.i64 (IntKind.wrap IntKind.i64 ((((Int.toNat a1 - 0) : Nat) : Int) + ((1 : Nat) : Int)) + (((Int.toNat ((n0 : Nat) : Int) - Int.toNat a2) : Nat) : Int))) - 0) : Nat) : Int)) && decide ((((Int.toNat (IntKind.wrap IntKind.i64 (IntKind.wrap IntKind.i64 ((((Int.toNat a1 - 0) : Nat) : Int) + ((1 : Nat) : Int)) + (((Int.toNat ((n0 : Nat) : Int) - Int.toNat a2) : Nat) : Int))) - 0) : Nat) : Int) ≤ (((Int.toNat (IntKind.wrap IntKind.i64 (IntKind.wrap IntKind.i64 ((((Int.toNat a1 - 0) : Nat) : Int) + ((1 : Nat) : Int)) + (((Int.toNat ((n0 : Nat) : Int) - Int.toNat a2) : Nat) : Int))) - 0) : Nat) : Int))) (
      .sem (extSem Try.prog 28 { toList := [Value.slice (if (((c0 - 0) : Nat) : Int) = IntKind.wrap IntKind.i64 (a1 + ((1 : Nat) : Int)) then if ((c0 : Nat) : Int) = 0 then A0 else Option.map (fun x => Addr.add x 0) A0 else Option.map (fun x => Addr.add x (Int.toNat (IntKind.wrap IntKind.i64 (a1 + ((1 : Nat) : Int))) * 2)) (if ((c0 : Nat) : Int) = 0 then A0 else Option.map (fun x => Addr.add x 0) A0)) (Int.toNat (((Int.toNat (IntKind.wrap IntKind.i64 (IntKind.wrap IntKind.i64 ((((Int.toNat a1 - 0) : Nat) : Int) + ((1 : Nat) : Int)) + (((Int.toNat ((n0 : Nat) : Int) - Int.toNat a2) : Nat) : Int))) - 0) : Nat) : Int) - Int.toNat (IntKind.wrap IntKind.i64 (a1 + ((1 : Nat) : Int)))) (c0 - 0 - Int.toNat (IntKind.wrap IntKind.i64 (a1 + ((1 : Nat) : Int)))), Value.slice A3 1 c3] }) ([Lf.b]) (Sh.one) (fun x0 =>
       bif x0.1 then (
        .need (decide (0 ≤ a1) && decide (a1 ≤ a2) && decide (a2 ≤ (((c0 - 0) : Nat) : Int))) (
        .sem (extSem Try.prog 28 { toList := [Value.slice (if (((c0 - 0) : Nat) : Int) = a1 then if ((c0 : Nat) : Int) = 0 then A0 else Option.map (fun x => Addr.add x 0) A0 else Option.map (fun x => Addr.add x (Int.toNat a1 * 2)) (if ((c0 : Nat) : Int) = 0 then A0 else Option.map (fun x => Addr.add x 0) A0)) (Int.toNat a2 - Int.toNat a1) (c0 - 0 - Int.toNat a1), Value.slice A3 1 c3] }) ([Lf.b]) (Sh.one) (fun x1 =>
         bif x1.1 then (
          .need (true && decide (((n0 : Nat) : Int) ≤ (((Int.toNat (IntKind.wrap IntKind.i64 (IntKind.wrap IntKind.i64 ((((Int.toNat a1 - 0) : Nat) : Int) + ((1 : Nat) : Int)) + (((Int.toNat ((n0 : Nat) : Int) - Int.toNat a2) : Nat) : Int))) - 0) : Nat) : Int)) && decide ((((Int.toNat (IntKind.wrap IntKind.i64 (IntKind.wrap IntKind.i64 ((((Int.toNat a1 - 0) : Nat) : Int) + ((1 : Nat) : Int)) + (((Int.toNat ((n0 : Nat) : Int) - Int.toNat a2) : Nat) : Int))) - 0) : Nat) : Int) ≤ (((Int.toNat (IntKind.wrap IntKind.i64 (IntKind.wrap IntKind.i64 ((((Int.toNat a1 - 0) : Nat) : Int) + ((1 : Nat) : Int)) + (((Int.toNat ((n0 : Nat) : Int) - Int.toNat a2) : Nat) : Int))) - 0) : Nat) : Int))) (
          .sem (extSem Try.prog 28 { toList := [Value.slice (if (((c0 - 0) : Nat) : Int) = ((n0 : Nat) : Int) then if ((c0 : Nat) : Int) = 0 then A0 else Option.map (fun x => Addr.add x 0) A0 else Option.map (fun x => Addr.add x (Int.toNat ((n0 : Nat) : Int) * 2)) (if ((c0 : Nat) : Int) = 0 then A0 else Option.map (fun x => Addr.add x 0) A0)) (Int.toNat (((Int.toNat (IntKind.wrap IntKind.i64 (IntKind.wrap IntKind.i64 ((((Int.toNat a1 - 0) : Nat) : Int) + ((1 : Nat) : Int)) + (((Int.toNat ((n0 : Nat) : Int) - Int.toNat a2) : Nat) : Int))) - 0) : Nat) : Int) - Int.toNat ((n0 : Nat) : Int)) (c0 - 0 - Int.toNat ((n0 : Nat) : Int)), Value.slice A3 1 c3] }) ([Lf.b]) (Sh.one) (fun x2 =>
           bif x2.1 then (
            .need (decide (0 ≤ a2) && decide (a2 ≤ ((n0 : Nat) : Int)) && decide (((n0 : Nat) : Int) ≤ ((n0 : Nat) : Int))) (
            .call 30 ([AV.v (Value.slice A3 1 c3), AV.v (Value.slice (if ((c0 : Nat) : Int) = a2 then A0 else Option.map (fun x => Addr.add x (Int.toNat a2 * 2)) A0) (Int.toNat ((n0 : Nat) : Int) - Int.toNat a2) (c0 - Int.toNat a2))]) ([]) (Sh.one) ([Lf.i IntKind.i64]) ([]) (fun x3 =>
             .need (decide (0 ≤ a1) && decide (a1 ≤ (((Int.toNat (IntKind.wrap IntKind.i64 (IntKind.wrap IntKind.i64 ((((Int.toNat a1 - 0) : Nat) : Int) + ((1 : Nat) : Int)) + (((Int.toNat ((n0 : Nat) : Int) - Int.toNat a2) : Nat) : Int))) - 0) : Nat) : Int)) && decide ((((Int.toNat (IntKind.wrap IntKind.i64 (IntKind.wrap IntKind.i64 ((((Int.toNat a1 - 0) : Nat) : Int) + ((1 : Nat) : Int)) + (((Int.toNat ((n0 : Nat) : Int) - Int.toNat a2) : Nat) : Int))) - 0) : Nat) : Int) ≤ (((Int.toNat (IntKind.wrap IntKind.i64 (IntKind.wrap IntKind.i64 ((((Int.toNat a1 - 0) : Nat) : Int) + ((1 : Nat) : Int)) + (((Int.toNat ((n0 : Nat) : Int) - Int.toNat a2) : Nat) : Int))) - 0) : Nat) : Int))) (
             .sem (Builtin.copy_ { toList := [43, 43] } 3 { toList := [Value.slice (if (((c0 - 0) : Nat) : Int) = a1 then if ((c0 : Nat) : Int) = 0 then A0 else Option.map (fun x => Addr.add x 0) A0 else Option.map (fun x => Addr.add x (Int.toNat a1 * 2)) (if ((c0 : Nat) : Int) = 0 then A0 else Option.map (fun x => Addr.add x 0) A0)) (Int.toNat (((Int.toNat (IntKind.wrap IntKind.i64 (IntKind.wrap IntKind.i64 ((((Int.toNat a1 - 0) : Nat) : Int) + ((1 : Nat) : Int)) + (((Int.toNat ((n0 : Nat) : Int) - Int.toNat a2) : Nat) : Int))) - 0) : Nat) : Int) - Int.toNat a1) (c0 - 0 - Int.toNat a1), Value.slice A3 1 c3] }) ([Lf.i IntKind.i64]) (Sh.one) (fun x4 =>
              .need (decide (0 ≤ IntKind.wrap IntKind.i64 (a1 + ((1 : Nat) : Int))) && decide (IntKind.wrap IntKind.i64 (a1 + ((1 : Nat) : Int)) ≤ (((Int.toNat (IntKind.wrap IntKind.i64 (IntKind.wrap IntKind.i64 ((((Int.toNat a1 - 0) : Nat) : Int) + ((1 : Nat) : Int)) + (((Int.toNat ((n0 : Nat) : Int) - Int.toNat a2) : Nat) : Int))) - 0) : Nat) : Int)) && decide ((((Int.toNat (IntKind.wrap IntKind.i64 (IntKind.wrap IntKind.i64 ((((Int.toNat a1 - 0) : Nat) : Int) + ((1 : Nat) : Int)) + (((Int.toNat ((n0 : Nat) : Int) - Int.toNat a2) : Nat) : Int))) - 0) : Nat) : Int) ≤ (((Int.toNat (IntKind.wrap IntKind.i64 (IntKind.wrap IntKind.i64 ((((Int.toNat a1 - 0) : Nat) : Int) + ((1 : Nat) : Int)) + (((Int.toNat ((n0 : Nat) : Int) - Int.toNat a2) : Nat) : Int))) - 0) : Nat) : Int))) (
              .need (decide (0 ≤ IntKind.wrap IntKind.i64 (a1 + x3.1)) && decide (IntKind.wrap IntKind.i64 (a1 + x3.1) ≤ (((Int.toNat (IntKind.wrap IntKind.i64 (IntKind.wrap IntKind.i64 ((((Int.toNat a1 - 0) : Nat) : Int) + ((1 : Nat) : Int)) + (((Int.toNat ((n0 : Nat) : Int) - Int.toNat a2) : Nat) : Int))) - 0) : Nat) : Int)) && decide ((((Int.toNat (IntKind.wrap IntKind.i64 (IntKind.wrap IntKind.i64 ((((Int.toNat a1 - 0) : Nat) : Int) + ((1 : Nat) : Int)) + (((Int.toNat ((n0 : Nat) : Int) - Int.toNat a2) : Nat) : Int))) - 0) : Nat) : Int) ≤ (((Int.toNat (IntKind.wrap IntKind.i64 (IntKind.wrap IntKind.i64 ((((Int.toNat a1 - 0) : Nat) : Int) + ((1 : Nat) : Int)) + (((Int.toNat ((n0 : Nat) : Int) - Int.toNat a2) : Nat) : Int))) - 0) : Nat) : Int))) (
              .sem (Builtin.copy_ { toList := [43, 43] } 3 { toList := [Value.slice (if (((c0 - 0) : Nat) : Int) = IntKind.wrap IntKind.i64 (a1 + ((1 : Nat) : Int)) then if ((c0 : Nat) : Int) = 0 then A0 else Option.map (fun x => Addr.add x 0) A0 else Option.map (fun x => Addr.add x (Int.toNat (IntKind.wrap IntKind.i64 (a1 + ((1 : Nat) : Int))) * 2)) (if ((c0 : Nat) : Int) = 0 then A0 else Option.map (fun x => Addr.add x 0) A0)) (Int.toNat (((Int.toNat (IntKind.wrap IntKind.i64 (IntKind.wrap IntKind.i64 ((((Int.toNat a1 - 0) : Nat) : Int) + ((1 : Nat) : Int)) + (((Int.toNat ((n0 : Nat) : Int) - Int.toNat a2) : Nat) : Int))) - 0) : Nat) : Int) - Int.toNat (IntKind.wrap IntKind.i64 (a1 + ((1 : Nat) : Int)))) (c0 - 0 - Int.toNat (IntKind.wrap IntKind.i64 (a1 + ((1 : Nat) : Int)))), Value.slice (if (((c0 - 0) : Nat) : Int) = IntKind.wrap IntKind.i64 (a1 + x3.1) then if ((c0 : Nat) : Int) = 0 then A0 else Option.map (fun x => Addr.add x 0) A0 else Option.map (fun x => Addr.add x (Int.toNat (IntKind.wrap IntKind.i64 (a1 + x3.1)) * 2)) (if ((c0 : Nat) : Int) = 0 then A0 else Option.map (fun x => Addr.add x 0) A0)) (Int.toNat (((Int.toNat (IntKind.wrap IntKind.i64 (IntKind.wrap IntKind.i64 ((((Int.toNat a1 - 0) : Nat) : Int) + ((1 : Nat) : Int)) + (((Int.toNat ((n0 : Nat) : Int) - Int.toNat a2) : Nat) : Int))) - 0) : Nat) : Int) - Int.toNat (IntKind.wrap IntKind.i64 (a1 + x3.1))) (c0 - 0 - Int.toNat (IntKind.wrap IntKind.i64 (a1 + x3.1)))] }) ([Lf.i IntKind.i64]) (Sh.one) (fun x5 =>
               .done (AV.v (Value.slice (if ((c0 : Nat) : Int) = 0 then A0 else Option.map (fun x => Addr.add x 0) A0) (Int.toNat (IntKind.wrap IntKind.i64 (IntKind.wrap IntKind.i64 ((((Int.toNat a1 - 0) : Nat) : Int) + ((1 : Nat) : Int)) + (((Int.toNat ((n0 : Nat) : Int) - Int.toNat a2) : Nat) : Int))) - 0) (c0 - 0))) ([])))))))))
           else (
            .need (true && decide (((n0 : Nat) : Int) ≤ (((Int.toNat (IntKind.wrap IntKind.i64 (IntKind.wrap IntKind.i64 ((((Int.toNat a1 - 0) : Nat) : Int) + ((1 : Nat) : Int)) + (((Int.toNat ((n0 : Nat) : Int) - Int.toNat a2) : Nat) : Int))) - 0) : Nat) : Int)) && decide ((((Int.toNat (IntKind.wrap IntKind.i64 (IntKind.wrap IntKind.i64 ((((Int.toNat a1 - 0) : Nat) : Int) + ((1 : Nat) : Int)) + (((Int.toNat ((n0 : Nat) : Int) - Int.toNat a2) : Nat) : Int))) - 0) : Nat) : Int) ≤ (((Int.toNat (IntKind.wrap IntKind.i64 (IntKind.wrap IntKind.i64 ((((Int.toNat a1 - 0) : Nat) : Int) + ((1 : Nat) : Int)) + (((Int.toNat ((n0 : Nat) : Int) - Int.toNat a2) : Nat) : Int))) - 0) : Nat) : Int))) (
            .need (true && decide (0 ≤ IntKind.wrap IntKind.i64 (((1 : Nat) : Int) - IntKind.wrap IntKind.i64 (a2 - a1))) && decide (IntKind.wrap IntKind.i64 (((1 : Nat) : Int) - IntKind.wrap IntKind.i64 (a2 - a1)) ≤ ((c3 : Nat) : Int))) (
            .sem (Builtin.copy_ { toList := [43, 43] } 3 { toList := [Value.slice (if (((c0 - 0) : Nat) : Int) = ((n0 : Nat) : Int) then if ((c0 : Nat) : Int) = 0 then A0 else Option.map (fun x => Addr.add x 0) A0 else Option.map (fun x => Addr.add x (Int.toNat ((n0 : Nat) : Int) * 2)) (if ((c0 : Nat) : Int) = 0 then A0 else Option.map (fun x => Addr.add x 0) A0)) (Int.toNat (((Int.toNat (IntKind.wrap IntKind.i64 (IntKind.wrap IntKind.i64 ((((Int.toNat a1 - 0) : Nat) : Int) + ((1 : Nat) : Int)) + (((Int.toNat ((n0 : Nat) : Int) - Int.toNat a2) : Nat) : Int))) - 0) : Nat) : Int) - Int.toNat ((n0 : Nat) : Int)) (c0 - 0 - Int.toNat ((n0 : Nat) : Int)), Value.slice (if ((c3 : Nat) : Int) = 0 then A3 else Option.map (fun x => Addr.add x 0) A3) (Int.toNat (IntKind.wrap IntKind.i64 (((1 : Nat) : Int) - IntKind.wrap IntKind.i64 (a2 - a1))) - 0) (c3 - 0)] }) ([Lf.i IntKind.i64]) (Sh.one) (fun x3 =>
             .need (decide (0 ≤ a1) && decide (a1 ≤ a2) && decide (a2 ≤ (((c0 - 0) : Nat) : Int))) (
             .need (decide (0 ≤ IntKind.wrap IntKind.i64 (((1 : Nat) : Int) - IntKind.wrap IntKind.i64 (a2 - a1))) && decide (IntKind.wrap IntKind.i64 (((1 : Nat) : Int) - IntKind.wrap IntKind.i64 (a2 - a1)) ≤ ((1 : Nat) : Int)) && true) (
             .sem (Builtin.copy_ { toList := [43, 43] } 3 { toList := [Value.slice (if (((c0 - 0) : Nat) : Int) = a1 then if ((c0 : Nat) : Int) = 0 then A0 else Option.map (fun x => Addr.add x 0) A0 else Option.map (fun x => Addr.add x (Int.toNat a1 * 2)) (if ((c0 : Nat) : Int) = 0 then A0 else Option.map (fun x => Addr.add x 0) A0)) (Int.toNat a2 - Int.toNat a1) (c0 - 0 - Int.toNat a1), Value.slice (if ((c3 : Nat) : Int) = IntKind.wrap IntKind.i64 (((1 : Nat) : Int) - IntKind.wrap IntKind.i64 (a2 - a1)) then A3 else Option.map (fun x => Addr.add x (Int.toNat (IntKind.wrap IntKind.i64 (((1 : Nat) : Int) - IntKind.wrap IntKind.i64 (a2 - a1))) * 2)) A3) (1 - Int.toNat (IntKind.wrap IntKind.i64 (((1 : Nat) : Int) - IntKind.wrap IntKind.i64 (a2 - a1)))) (c3 - Int.toNat (IntKind.wrap IntKind.i64 (((1 : Nat) : Int) - IntKind.wrap IntKind.i64 (a2 - a1))))] }) ([Lf.i IntKind.i64]) (Sh.one) (fun x4 =>
              .need (decide (0 ≤ a1) && decide (a1 ≤ (((Int.toNat (IntKind.wrap IntKind.i64 (IntKind.wrap IntKind.i64 ((((Int.toNat a1 - 0) : Nat) : Int) + ((1 : Nat) : Int)) + (((Int.toNat ((n0 : Nat) : Int) - Int.toNat a2) : Nat) : Int))) - 0) : Nat) : Int)) && decide ((((Int.toNat (IntKind.wrap IntKind.i64 (IntKind.wrap IntKind.i64 ((((Int.toNat a1 - 0) : Nat) : Int) + ((1 : Nat) : Int)) + (((Int.toNat ((n0 : Nat) : Int) - Int.toNat a2) : Nat) : Int))) - 0) : Nat) : Int) ≤ (((Int.toNat (IntKind.wrap IntKind.i64 (IntKind.wrap IntKind.i64 ((((Int.toNat a1 - 0) : Nat) : Int) + ((1 : Nat) : Int)) + (((Int.toNat ((n0 : Nat) : Int) - Int.toNat a2) : Nat) : Int))) - 0) : Nat) : Int))) (
              .call 29 ([AV.v (Value.slice (if (((c0 - 0) : Nat) : Int) = a1 then if ((c0 : Nat) : Int) = 0 then A0 else Option.map (fun x => Addr.add x 0) A0 else Option.map (fun x => Addr.add x (Int.toNat a1 * 2)) (if ((c0 : Nat) : Int) = 0 then A0 else Option.map (fun x => Addr.add x 0) A0)) (Int.toNat (((Int.toNat (IntKind.wrap IntKind.i64 (IntKind.wrap IntKind.i64 ((((Int.toNat a1 - 0) : Nat) : Int) + ((1 : Nat) : Int)) + (((Int.toNat ((n0 : Nat) : Int) - Int.toNat a2) : Nat) : Int))) - 0) : Nat) : Int) - Int.toNat a1) (c0 - 0 - Int.toNat a1)), AV.v (Value.int IntKind.i64 (IntKind.wrap IntKind.i64 (((1 : Nat) : Int) - IntKind.wrap IntKind.i64 (a2 - a1))))]) ([]) (Sh.tup []) ([]) ([]) (fun x5 =>
               .done (AV.v (Value.slice (if ((c0 : Nat) : Int) = 0 then A0 else Option.map (fun x => Addr.add x 0) A0) (Int.toNat (IntKind.wrap IntKind.i64 (IntKind.wrap IntKind.i64 ((((Int.toNat a1 - 0) : Nat) : Int) + ((1 : Nat) : Int)) + (((Int.toNat ((n0 : Nat) : Int) - Int.toNat a2) : Nat) : Int))) - 0) (c0 - 0))) ([])))))))))))))
         else (
          .need (decide (0 ≤ a1) && decide (a1 ≤ a2) && decide (a2 ≤ (((c0 - 0) : Nat) : Int))) (
          .need (decide (0 ≤ IntKind.wrap IntKind.i64 (((1 : Nat) : Int) - IntKind.wrap IntKind.i64 (a2 - a1))) && decide (IntKind.wrap IntKind.i64 (((1 : Nat) : Int) - IntKind.wrap IntKind.i64 (a2 - a1)) ≤ ((1 : Nat) : Int)) && true) (
          .sem (Builtin.copy_ { toList := [43, 43] } 3 { toList := [Value.slice (if (((c0 - 0) : Nat) : Int) = a1 then if ((c0 : Nat) : Int) = 0 then A0 else Option.map (fun x => Addr.add x 0) A0 else Option.map (fun x => Addr.add x (Int.toNat a1 * 2)) (if ((c0 : Nat) : Int) = 0 then A0 else Option.map (fun x => Addr.add x 0) A0)) (Int.toNat a2 - Int.toNat a1) (c0 - 0 - Int.toNat a1), Value.slice (if ((c3 : Nat) : Int) = IntKind.wrap IntKind.i64 (((1 : Nat) : Int) - IntKind.wrap IntKind.i64 (a2 - a1)) then A3 else Option.map (fun x => Addr.add x (Int.toNat (IntKind.wrap IntKind.i64 (((1 : Nat) : Int) - IntKind.wrap IntKind.i64 (a2 - a1))) * 2)) A3) (1 - Int.toNat (IntKind.wrap IntKind.i64 (((1 : Nat) : Int) - IntKind.wrap IntKind.i64 (a2 - a1)))) (c3 - Int.toNat (IntKind.wrap IntKind.i64 (((1 : Nat) : Int) - IntKind.wrap IntKind.i64 (a2 - a1))))] }) ([Lf.i IntKind.i64]) (Sh.one) (fun x2 =>
           .need (true && decide (((n0 : Nat) : Int) ≤ (((Int.toNat (IntKind.wrap IntKind.i64 (IntKind.wrap IntKind.i64 ((((Int.toNat a1 - 0) : Nat) : Int) + ((1 : Nat) : Int)) + (((Int.toNat ((n0 : Nat) : Int) - Int.toNat a2) : Nat) : Int))) - 0) : Nat) : Int)) && decide ((((Int.toNat (IntKind.wrap IntKind.i64 (IntKind.wrap IntKind.i64 ((((Int.toNat a1 - 0) : Nat) : Int) + ((1 : Nat) : Int)) + (((Int.toNat ((n0 : Nat) : Int) - Int.toNat a2) : Nat) : Int))) - 0) : Nat) : Int) ≤ (((Int.toNat (IntKind.wrap IntKind.i64 (IntKind.wrap IntKind.i64 ((((Int.toNat a1 - 0) : Nat) : Int) + ((1 : Nat) : Int)) + (((Int.toNat ((n0 : Nat) : Int) - Int.toNat a2) : Nat) : Int))) - 0) : Nat) : Int))) (
           .need (true && decide (0 ≤ IntKind.wrap IntKind.i64 (((1 : Nat) : Int) - IntKind.wrap IntKind.i64 (a2 - a1))) && decide (IntKind.wrap IntKind.i64 (((1 : Nat) : Int) - IntKind.wrap IntKind.i64 (a2 - a1)) ≤ ((c3 : Nat) : Int))) (
           .sem (Builtin.copy_ { toList := [43, 43] } 3 { toList := [Value.slice (if (((c0 - 0) : Nat) : Int) = ((n0 : Nat) : Int) then if ((c0 : Nat) : Int) = 0 then A0 else Option.map (fun x => Addr.add x 0) A0 else Option.map (fun x => Addr.add x (Int.toNat ((n0 : Nat) : Int) * 2)) (if ((c0 : Nat) : Int) = 0 then A0 else Option.map (fun x => Addr.add x 0) A0)) (Int.toNat (((Int.toNat (IntKind.wrap IntKind.i64 (IntKind.wrap IntKind.i64 ((((Int.toNat a1 - 0) : Nat) : Int) + ((1 : Nat) : Int)) + (((Int.toNat ((n0 : Nat) : Int) - Int.toNat a2) : Nat) : Int))) - 0) : Nat) : Int) - Int.toNat ((n0 : Nat) : Int)) (c0 - 0 - Int.toNat ((n0 : Nat) : Int)), Value.slice (if ((c3 : Nat) : Int) = 0 then A3 else Option.map (fun x => Addr.add x 0) A3) (Int.toNat (IntKind.wrap IntKind.i64 (((1 : Nat) : Int) - IntKind.wrap IntKind.i64 (a2 - a1))) - 0) (c3 - 0)] }) ([Lf.i IntKind.i64]) (Sh.one) (fun x3 =>
            .need (decide (0 ≤ a1) && decide (a1 ≤ (((Int.toNat (IntKind.wrap IntKind.i64 (IntKind.wrap IntKind.i64 ((((Int.toNat a1 - 0) : Nat) : Int) + ((1 : Nat) : Int)) + (((Int.toNat ((n0 : Nat) : Int) - Int.toNat a2) : Nat) : Int))) - 0) : Nat) : Int)) && decide ((((Int.toNat (IntKind.wrap IntKind.i64 (IntKind.wrap IntKind.i64 ((((Int.toNat a1 - 0) : Nat) : Int) + ((1 : Nat) : Int)) + (((Int.toNat ((n0 : Nat) : Int) - Int.toNat a2) : Nat) : Int))) - 0) : Nat) : Int) ≤ (((Int.toNat (IntKind.wrap IntKind.i64 (IntKind.wrap IntKind.i64 ((((Int.toNat a1 - 0) : Nat) : Int) + ((1 : Nat) : Int)) + (((Int.toNat ((n0 : Nat) : Int) - Int.toNat a2) : Nat) : Int))) - 0) : Nat) : Int))) (
            .call 29 ([AV.v (Value.slice (if (((c0 - 0) : Nat) : Int) = a1 then if ((c0 : Nat) : Int) = 0 then A0 else Option.map (fun x => Addr.add x 0) A0 else Option.map (fun x => Addr.add x (Int.toNat a1 * 2)) (if ((c0 : Nat) : Int) = 0 then A0 else Option.map (fun x => Addr.add x 0) A0)) (Int.toNat (((Int.toNat (IntKind.wrap IntKind.i64 (IntKind.wrap IntKind.i64 ((((Int.toNat a1 - 0) : Nat) : Int) + ((1 : Nat) : Int)) + (((Int.toNat ((n0 : Nat) : Int) - Int.toNat a2) : Nat) : Int))) - 0) : Nat) : Int) - Int.toNat a1) (c0 - 0 - Int.toNat a1)), AV.v (Value.int IntKind.i64 (IntKind.wrap IntKind.i64 (((1 : Nat) : Int) - IntKind.wrap IntKind.i64 (a2 - a1))))]) ([]) (Sh.tup []) ([]) ([]) (fun x4 =>
             .done (AV.v (Value.slice (if ((c0 : Nat) : Int) = 0 then A0 else Option.map (fun x => Addr.add x 0) A0) (Int.toNat (IntKind.wrap IntKind.i64 (IntKind.wrap IntKind.i64 ((((Int.toNat a1 - 0) : Nat) : Int) + ((1 : Nat) : Int)) + (((Int.toNat ((n0 : Nat) : Int) - Int.toNat a2) : Nat) : Int))) - 0) (c0 - 0))) ([])))))))))))))
       else (
        .need (decide (0 ≤ IntKind.wrap IntKind.i64 (a1 + ((1 : Nat) : Int))) && decide (IntKind.wrap IntKind.i64 (a1 + ((1 : Nat) : Int)) ≤ (((Int.toNat (IntKind.wrap IntKind.i64 (IntKind.wrap IntKind.i64 ((((Int.toNat a1 - 0) : Nat) : Int) + ((1 : Nat) : Int)) + (((Int.toNat ((n0 : Nat) : Int) - Int.toNat a2) : Nat) : Int))) - 0) : Nat) : Int)) && decide ((((Int.toNat (IntKind.wrap IntKind.i64 (IntKind.wrap IntKind.i64 ((((Int.toNat a1 - 0) : Nat) : Int) + ((1 : Nat) : Int)) + (((Int.toNat ((n0 : Nat) : Int) - Int.toNat a2) : Nat) : Int))) - 0) : Nat) : Int) ≤ (((Int.toNat (IntKind.wrap IntKind.i64 (IntKind.wrap IntKind.i64 ((((Int.toNat a1 - 0) : Nat) : Int) + ((1 : Nat) : Int)) + (((Int.toNat ((n0 : Nat) : Int) - Int.toNat a2) : Nat) : Int))) - 0) : Nat) : Int))) (
        .need (decide (0 ≤ a2) && decide (a2 ≤ ((n0 : Nat) : Int)) && decide (((n0 : Nat) : Int) ≤ ((n0 : Nat) : Int))) (
        .sem (Builtin.copy_ { toList := [43, 43] } 3 { toList := [Value.slice (if (((c0 - 0) : Nat) : Int) = IntKind.wrap IntKind.i64 (a1 + ((1 : Nat) : Int)) then if ((c0 : Nat) : Int) = 0 then A0 else Option.map (fun x => Addr.add x 0) A0 else Option.map (fun x => Addr.add x (Int.toNat (IntKind.wrap IntKind.i64 (a1 + ((1 : Nat) : Int))) * 2)) (if ((c0 : Nat) : Int) = 0 then A0 else Option.map (fun x => Addr.add x 0) A0)) (Int.toNat (((Int.toNat (IntKind.wrap IntKind.i64 (IntKind.wrap IntKind.i64 ((((Int.toNat a1 - 0) : Nat) : Int) + ((1 : Nat) : Int)) + (((Int.toNat ((n0 : Nat) : Int) - Int.toNat a2) : Nat) : Int))) - 0) : Nat) : Int) - Int.toNat (IntKind.wrap IntKind.i64 (a1 + ((1 : Nat) : Int)))) (c0 - 0 - Int.toNat (IntKind.wrap IntKind.i64 (a1 + ((1 : Nat) : Int)))), Value.slice (if ((c0 : Nat) : Int) = a2 then A0 else Option.map (fun x => Addr.add x (Int.toNat a2 * 2)) A0) (Int.toNat ((n0 : Nat) : Int) - Int.toNat a2) (c0 - Int.toNat a2)] }) ([Lf.i IntKind.i64]) (Sh.one) (fun x1 =>
         .need (decide (0 ≤ a1) && decide (a1 ≤ (((Int.toNat (IntKind.wrap IntKind.i64 (IntKind.wrap IntKind.i64 ((((Int.toNat a1 - 0) : Nat) : Int) + ((1 : Nat) : Int)) + (((Int.toNat ((n0 : Nat) : Int) - Int.toNat a2) : Nat) : Int))) - 0) : Nat) : Int)) && decide ((((Int.toNat (IntKind.wrap IntKind.i64 (IntKind.wrap IntKind.i64 ((((Int.toNat a1 - 0) : Nat) : Int) + ((1 : Nat) : Int)) + (((Int.toNat ((n0 : Nat) : Int) - Int.toNat a2) : Nat) : Int))) - 0) : Nat) : Int) ≤ (((Int.toNat (IntKind.wrap IntKind.i64 (IntKind.wrap IntKind.i64 ((((Int.toNat a1 - 0) : Nat) : Int) + ((1 : Nat) : Int)) + (((Int.toNat ((n0 : Nat) : Int) - Int.toNat a2) : Nat) : Int))) - 0) : Nat) : Int))) (
         .sem (Builtin.copy_ { toList := [43, 43] } 3 { toList := [Value.slice (if (((c0 - 0) : Nat) : Int) = a1 then if ((c0 : Nat) : Int) = 0 then A0 else Option.map (fun x => Addr.add x 0) A0 else Option.map (fun x => Addr.add x (Int.toNat a1 * 2)) (if ((c0 : Nat) : Int) = 0 then A0 else Option.map (fun x => Addr.add x 0) A0)) (Int.toNat (((Int.toNat (IntKind.wrap IntKind.i64 (IntKind.wrap IntKind.i64 ((((Int.toNat a1 - 0) : Nat) : Int) + ((1 : Nat) : Int)) + (((Int.toNat ((n0 : Nat) : Int) - Int.toNat a2) : Nat) : Int))) - 0) : Nat) : Int) - Int.toNat a1) (c0 - 0 - Int.toNat a1), Value.slice A3 1 c3] }) ([Lf.i IntKind.i64]) (Sh.one) (fun x2 =>
          .done (AV.v (Value.slice (if ((c0 : Nat) : Int) = 0 then A0 else Option.map (fun x => Addr.add x 0) A0) (Int.toNat (IntKind.wrap IntKind.i64 (IntKind.wrap IntKind.i64 ((((Int.toNat a1 - 0) : Nat) : Int) + ((1 : Nat) : Int)) + (((Int.toNat ((n0 : Nat) : Int) - Int.toNat a2) : Nat) : Int))) - 0) (c0 - 0))) ([]))))))))))))))))) := by kernel_rfl
theorem rep_eq {α : Type} (xs : List α) (i j : Nat) (x : α) (hij : i < j) (hj : j < xs.length) (zs : List α) : (((xs.take i ++ [x] ++ xs.drop (i + [x].length)).take (i + 1) ++ xs.drop j ++ (xs.take i ++ [x] ++ xs.drop (i + [x].length)).drop (i + 1 + (xs.drop j).length)).take (i + 1 + (xs.length - j)) ++ zs).take (i + 1 + (xs.length - j)) = xs.take i ++ [x] ++ xs.drop j := by
  have l1 : (xs.take i ++ [x]).length = i + 1 := by simp only [List.length_append, List.length_take, List.length_cons, List.length_nil]; omega
  have ld : (xs.drop j).length = xs.length - j := List.length_drop
  have e1 : (xs.take i ++ [x] ++ xs.drop (i + [x].length)).take (i + 1) = xs.take i ++ [x] := by rw [List.take_append_of_le_length (by omega), List.take_of_length_le (by omega)]
  have l2 : (xs.take i ++ [x] ++ xs.drop j).length = i + 1 + (xs.length - j) := by rw [List.length_append, l1, ld]
  rw [e1, List.take_append_of_le_length (l₁ := xs.take i ++ [x] ++ xs.drop j) (by omega), List.take_of_length_le (l := xs.take i ++ [x] ++ xs.drop j) (by omega), List.take_append_of_le_length (by omega), List.take_of_length_le (by omega)]
set_option maxHeartbeats 4000000 in
theorem Replace43.c (A : Option Addr) (c : Nat) (xs : List _) (i j : Nat) (A2 : Option Addr) (c2 : Nat) (x : _) (hij : i ≤ j) (hj : j ≤ xs.length) (hsz : (xs.length + 1) * 16 ≤ 140737488355328) (w : World) (ho : OwnO 0 (fun _ => False) w 51 R43 A c xs) (hs : OwnO 0 (blk (A, 0, 0)) w 51 R43 A2 c2 [x]) :
    Calls Try.prog 26 #[.slice A xs.length c, .int .i64 i, .int .i64 j, .slice A2 1 c2] w fun e w' => ∃ (A' : Option Addr) (c' : Nat), e = .returned (.slice A' (xs.take i ++ [x] ++ xs.drop j).length c') ∧ OwnO 0 (fun _ => False) w' 51 R43 A' c' (xs.take i ++ [x] ++ xs.drop j) ∧ Fine (blk (A, 0, 0)) w (blk (A, 0, 0)) w' ∧ (∀ b, blk (A', 0, 0) b → blk (A, 0, 0) b ∨ w.heap.size ≤ b) := by
  have hcap := ho.sl.2.1
  have hcm : c ≤ maxLen := by
    rcases ho with ⟨_, rfl, _⟩ | ⟨_, _, _, _, _, _, _, _, h, _⟩
    · exact Nat.zero_le _
    · exact h
  simp only [maxLen] at hcm
  have w2 : IntKind.i64.wrap ((i : Int) + ((1 : Nat) : Int)) = ((i + 1 : Nat) : Int) := by rw [wrap_in] <;> omega
  have w3 : IntKind.i64.wrap (((i + 1 : Nat) : Int) + ((xs.length - j : Nat) : Int)) = ((i + 1 + (xs.length - j) : Nat) : Int) := by rw [wrap_in] <;> omega
  have hlen : (xs.take i ++ [x] ++ xs.drop j).length = i + 1 + (xs.length - j) := by simp only [List.length_append, List.length_take, List.length_drop, List.length_cons, List.length_nil]; omega
  refine enter0 mixed noA noC [AV.v (Value.slice A xs.length c), AV.v (Value.int .i64 i), AV.v (Value.int .i64 j), AV.v (Value.slice A2 1 c2)] Try.func26 rfl rfl rfl (fun hF0 => ?_)
  rw [Replace43.t]
  have hF : Fine (blk (A, 0, 0)) w (fun _ => False) w := ⟨rfl, rfl, rfl, Nat.le_refl _, fun _ _ _ => rfl, fun b h => h.elim⟩
  simp only [w2, w3, Int.toNat_natCast, Nat.sub_zero, if_add0]
  have fin : ∀ {L : Nat → Prop} {w1 w' : World} {L' : Nat → Prop} {A' : Option Addr} {c' n' : Nat} (hO : OwnO 0 L w1 51 R43 A' c' (xs.take i ++ [x] ++ xs.drop j)) (hF : Fine (blk (A, 0, 0)) w L w1) (hb : ∀ b, blk (A', 0, 0) b → blk (A, 0, 0) b ∨ w.heap.size ≤ b) (hn : n' = i + 1 + (xs.length - j)) (he : Ext L w1 L' w'), ∃ (A'' : Option Addr) (c'' : Nat), (Ending.returned (Value.slice A' n' c') = .returned (.slice A'' (xs.take i ++ [x] ++ xs.drop j).length c'')) ∧ OwnO 0 (fun _ => False) w' 51 R43 A'' c'' (xs.take i ++ [x] ++ xs.drop j) ∧ Fine (blk (A, 0, 0)) w (blk (A, 0, 0)) w' ∧ (∀ b, blk (A'', 0, 0) b → blk (A, 0, 0) b ∨ w.heap.size ≤ b) := by
    intro L w1 w' L' A' c' n' hO hF hb hn he
    subst hn
    exact ⟨A', c', by rw [hlen], (hO.later he.fine).bare', (hF.ext he).with (fun b h => Or.inl h), hb⟩
  refine ok_need (by simp; omega) ?_
  refine ok_if (fun hc => ?_) (fun hc => ?_)
  · obtain rfl : i = j := by
      have h : (i : Int) = (j : Int) := by simpa using hc
      omega
    refine ok_callo (blk (A, 0, 0)) rfl (fun b hb => ⟨fun h => h, ho.lt1 b hb⟩) (fun L1 w1 g1 lt1 => ?_)
    have hF1 := hF.trans g1
    refine (Insert43.c A c xs i A2 c2 x hj hsz w1 (ho.later g1).bare' (hs.later (hF1.with (fun b h => Or.inl h)))).mono ?_
    rintro e w1' ⟨A', c', rfl, hO, hf, hb⟩
    refine ⟨((A', _, c'), ()), rfl, hf, fun g2 hid2 hv2 => ?_⟩
    have hF2 := Fine.own hF g2 (fun b hb => Or.inl hb) hid2
    intro ρ L w' _ he _ _
    exact fin (hO.vis (fun b h => hv2 b (hb b h))) hF2 (fun b h => (hb b h).imp id (Nat.le_trans g1.size)) (by rw [hlen]) he
  · have hlt : i < j := by
      have : ¬ (i : Int) = (j : Int) := by simpa using hc
      omega
    have hA : A.isSome = true := ho.sl.some (by omega)
    obtain ⟨a, rfl⟩ := Option.isSome_iff_exists.1 hA
    have hif : ∀ k : Nat, k < c → (if ((c : Nat) : Int) = ((k : Nat) : Int) then some a else Option.map (fun x => Addr.add x (k * 2)) (some a)) = some (a.add (k * 2)) := fun k hk => by rw [if_neg (by omega)]; rfl
    refine ok_if (fun hq => ?_) (fun hq => ?_)
    · obtain rfl : j = xs.length := by
        have h : (j : Int) = (xs.length : Int) := by simpa using hq
        omega
      have ej : xs.take i ++ [x] ++ xs.drop xs.length = xs.take i ++ [x] := by simp
      rw [ej] at fin
      refine ok_need (by simp; omega) ?_
      refine ok_appR (ys := [x]) E43 ho rfl (hs.later hF).sl rfl (by simp) (by omega) (by simp only [List.length_cons, List.length_nil]; omega) (fun L1 w1 hO g hid => ?_)
      have hF1 := Fine.own hF g (fun b hb => Or.inl hb) hid
      have l1 : (xs.take i ++ [x] ++ xs.drop (i + [x].length)).length = xs.length := by simp only [List.length_append, List.length_take, List.length_drop, List.length_cons, List.length_nil]; omega
      have ecut : ∀ zs : List _, ((xs.take i ++ [x] ++ zs).drop 0).take (i + 1 - 0) = xs.take i ++ [x] := fun zs => by
        rw [List.drop_zero, Nat.sub_zero, List.take_append_of_le_length (by simp only [List.length_append, List.length_take, List.length_cons, List.length_nil]; omega), List.take_of_length_le (by simp only [List.length_append, List.length_take, List.length_cons, List.length_nil]; omega)]
      dsimp only
      simp only [List.length_cons, List.length_nil, Nat.zero_add, Int.toNat_natCast]
      refine ok_if (fun hg => ?_) (fun hg => ?_)
      · have hg : i + 1 < xs.length := by
          have h : (i : Int) + 1 < (xs.length : Int) := by simpa using hg
          omega
        refine ok_need (by simp; omega) ?_
        rw [hif (i + 1) (by omega)]
        refine ok_clear (m := xs.length - (i + 1)) (i + 1) ((0, 0) : Int × Int) (.int .i64 0) E43 rfl zero51 hO (by omega) (by rw [l1]; omega) (fun L2 w2 hO2 g2 hid2 => ?_)
        have hF2 := Fine.own hF1 g2 (fun b hb => Or.inl hb) hid2
        have hcut := hO2.cut 0 (i + 1) (by omega) (by simp only [List.length_append, List.length_take, List.length_drop, List.length_cons, List.length_nil, List.length_replicate]; omega)
        rw [Nat.zero_mul, if_add0, Nat.sub_zero] at hcut
        have e3 : (xs.take i ++ [x] ++ xs.drop (i + [x].length)).take (i + 1) = xs.take i ++ [x] := by have := ecut (xs.drop (i + [x].length)); rw [List.drop_zero] at this; exact this
        rw [e3, List.append_assoc (xs.take i ++ [x]), ecut] at hcut
        intro ρ L w' _ he _ _
        rw [ej]
        exact fin hcut hF2 (fun b hb => Or.inl hb) (by omega) he
      · have hcut := hO.cut 0 (i + 1) (by omega) (by rw [l1]; omega)
        rw [Nat.zero_mul, if_add0, Nat.sub_zero, ecut] at hcut
        intro ρ L w' _ he _ _
        rw [ej]
        exact fin hcut hF1 (fun b hb => Or.inl hb) (by omega) he
    · have hjn : j < xs.length := by
        have : ¬ (j : Int) = (xs.length : Int) := by simpa using hq
        omega
      have hdrop : (xs.drop j).length = xs.length - j := List.length_drop
      refine ok_need (by simp; omega) (ok_need (by simp; omega) ?_)
      refine ok_if (fun hg => ?_) (fun hg => ?_)
      · exfalso
        have h : (c : Int) < ((i + 1 + (xs.length - j) : Nat) : Int) := of_decide_eq_true hg
        omega
      refine ok_need (by simp; omega) ?_
      refine ok_if (fun hg2 => ?_) (fun hg2 => ?_)
      · refine ok_need (by simp; omega) ?_
        refine ok_copyC (ys := [x]) i E43 ho (hs.later hF).sl (by simp only [List.length_cons, List.length_nil]; omega) (by omega) (by simp only [List.length_cons, List.length_nil]; omega) (fun _ => hif i (by omega)) (fun L1 w1 hO1 g1 hid1 => ?_)
        have hF1 := Fine.own hF g1 (fun b hb => Or.inl hb) hid1
        refine ok_need (by simp; omega) (ok_need (by simp; omega) ?_)
        have hsub : SlR R43.row L1 w1 (some (a.add (j * 2))) (c - j) (xs.drop j) := by
          have l1 : (xs.take i ++ [x] ++ xs.drop (i + [x].length)).length = xs.length := by simp only [List.length_append, List.length_take, List.length_drop, List.length_cons, List.length_nil]; omega
          have := hO1.sl.sub (j : Int) (xs.length : Int) (by omega) (by omega) (by rw [l1]; omega)
          rw [Int.toNat_natCast, Int.toNat_natCast] at this
          have e : (((xs.take i ++ [x] ++ xs.drop (i + [x].length)).drop j).take (xs.length - j)) = xs.drop j := by
            have l2 : (xs.take i ++ [x]).length = i + 1 := by simp only [List.length_append, List.length_take, List.length_cons, List.length_nil]; omega
            rw [List.drop_append, List.drop_of_length_le (by omega), List.nil_append, List.drop_drop, l2]
            have : i + [x].length + (j - (i + 1)) = j := by simp only [List.length_cons, List.length_nil]; omega
            rw [this]
            exact List.take_of_length_le (by rw [List.length_drop]; exact Nat.le_refl _)
          rw [e] at this
          rw [← hif j (by omega)]
          exact this
        rw [hif j (by omega)]
        refine ok_copyC (ys := xs.drop j) (i + 1) E43 hO1 hsub (by rw [hdrop]; omega) (by simp only [List.length_append, List.length_take, List.length_drop, List.length_cons, List.length_nil]; omega) (by rw [hdrop]; omega) (fun hp => hif (i + 1) (by rw [hdrop] at hp; omega)) (fun L2 w2 hO2 g2 hid2 => ?_)
        have hF2 := Fine.own hF1 g2 (fun b hb => Or.inl hb) hid2
        refine ok_need (by simp; omega) ?_
        have l3 : ((xs.take i ++ [x] ++ xs.drop (i + [x].length)).take (i + 1) ++ xs.drop j ++ (xs.take i ++ [x] ++ xs.drop (i + [x].length)).drop (i + 1 + (xs.drop j).length)).length = xs.length := by simp only [List.length_append, List.length_take, List.length_drop, List.length_cons, List.length_nil]; omega
        have lastly : ∀ {L : Nat → Prop} {w3 : World} (zs : List _), OwnO 0 L w3 51 R43 (some a) c (((xs.take i ++ [x] ++ xs.drop (i + [x].length)).take (i + 1) ++ xs.drop j ++ (xs.take i ++ [x] ++ xs.drop (i + [x].length)).drop (i + 1 + (xs.drop j).length)).take (i + 1 + (xs.length - j)) ++ zs) → OwnO 0 L w3 51 R43 (some a) c (xs.take i ++ [x] ++ xs.drop j) := fun {L w3} zs h => by
          have hcut := h.cut 0 (i + 1 + (xs.length - j)) (by omega) (by rw [List.length_append, List.length_take, l3]; omega)
          rw [Nat.zero_mul, if_add0, Nat.sub_zero, List.drop_zero, Nat.sub_zero, rep_eq xs i j x hlt hjn zs] at hcut
          exact hcut
        rcases Nat.eq_zero_or_pos (xs.length - (i + 1 + (xs.length - j))) with hz | hz
        · rw [hz]
          refine ok_clear0 E43 (fun L3 w3 g3 => ?_)
          have hF3 := hF2.trans g3
          have hO3 := hO2.later g3
          have hO4 := lastly [] (by rw [List.append_nil, List.take_of_length_le (by rw [l3]; omega)]; exact hO3)
          intro ρ L w' _ he _ _
          exact fin hO4 hF3 (fun b hb => Or.inl hb) rfl he
        · rw [hif (i + 1 + (xs.length - j)) (by omega)]
          refine ok_clear (m := xs.length - (i + 1 + (xs.length - j))) (i + 1 + (xs.length - j)) ((0, 0) : Int × Int) (.int .i64 0) E43 rfl zero51 hO2 hz (by rw [l3]; omega) (fun L3 w3 hO3 g3 hid3 => ?_)
          have hF3 := Fine.own hF2 g3 (fun b hb => Or.inl hb) hid3
          rw [List.append_assoc] at hO3
          have hO4 := lastly _ hO3
          intro ρ L w' _ he _ _
          exact fin hO4 hF3 (fun b hb => Or.inl hb) rfl he
      · exfalso
        have h : ¬ (((i + 1 : Nat) : Int) ≤ (j : Int)) := of_decide_eq_false hg2
        omega
/-- slices.Replace with one value. -/
theorem ok_rep43 {pin : List (Nat × Nat)} {Q : Ending → World → Prop} {J : Jt} {Lu : Nat → Prop} {wu : World} {A A2 : Option Addr} {c c2 n1 : Nat} {xs : List _} {i j : Int} {x : _} {k : Tup [Lf.sl] → XT} (hn1 : n1 = xs.length) (ho : OwnO 0 Lu wu 51 R43 A c xs) (hs : OwnO 0 Lu wu 51 R43 A2 c2 [x]) (hd : Dj A2 A) (h0 : 0 ≤ i) (hij : i ≤ j) (hj : j ≤ xs.length) (hsz : (xs.length + 1) * 16 ≤ 140737488355328)
    (hk : ∀ A' c' L w, OwnO 0 L w 51 R43 A' c' (xs.take i.toNat ++ [x] ++ xs.drop j.toNat) → Fine (fun b => Lu b ∨ blk (A, 0, 0) b) wu L w → (∀ q, L q → Lu q ∨ wu.heap.size ≤ q) → (∀ b, blk (A', 0, 0) b → blk (A, 0, 0) b ∨ wu.heap.size ≤ b) → (k ((A', (xs.take i.toNat ++ [x] ++ xs.drop j.toNat).length, c'), ())).ok Try.prog pin Q J L w) :
    (XT.call 26 [AV.v (Value.slice A n1 c), AV.v (Value.int .i64 i), AV.v (Value.int .i64 j), AV.v (Value.slice A2 1 c2)] [] Sh.one [Lf.sl] [] k).ok Try.prog pin Q J Lu wu := by
  subst hn1
  obtain ⟨i', rfl⟩ : ∃ m : Nat, i = m := ⟨i.toNat, by omega⟩
  obtain ⟨j', rfl⟩ : ∃ m : Nat, j = m := ⟨j.toNat, by omega⟩
  simp only [Int.toNat_natCast] at hk
  refine ok_callo (blk (A, 0, 0)) rfl (fun b hb => ⟨(ho.lt b hb).2.1, ho.lt1 b hb⟩) (fun L1 w1 g1 lt1 => ?_)
  refine (Replace43.c A c xs i' j' A2 c2 x (by omega) (by omega) hsz w1 (ho.later g1).bare' ((hs.later g1).vis (fun b hb => hd b hb))).mono ?_
  rintro e w1' ⟨A', c', rfl, hO, hf, hb⟩
  exact ⟨((A', _, c'), ()), rfl, hf, fun g2 hid2 hv2 => hk A' c' L1 w1' (hO.vis (fun b h => hv2 b (hb b h))) g2 hid2 (fun b h => (hb b h).imp id (Nat.le_trans g1.size))⟩
end Go.Proofs.Ytdjeadgebcndeaa.X
