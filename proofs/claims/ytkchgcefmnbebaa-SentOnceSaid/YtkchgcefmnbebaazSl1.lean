import Derived.Test.YtkchgcefmnbebaazSm10
import Derived.Test.YtkchgcefmnbebaazSg1
namespace Go.Proofs.Ytkchgcefmnbebaa.X
open Go Go.RowKit Go.Proofs.YtkchgcefmnbebaaW.Rx
set_option linter.unusedVariables false
set_option linter.unusedSimpArgs false
set_option maxRecDepth 20000
def timeB (n : Int) : Bool := decide (0 ≤ n) && decide (n ≤ 1099511627776)
def waitB (now wait : Int) : Bool := timeB now && (timeB wait && decide (0 < wait))
theorem isTime_F (k : Nat) (n : Int) : sent_isTime.F k n = some (timeB n) := by
 unfold sent_isTime.F timeB
 cases decide (0 ≤ n) <;> cases decide (n ≤ 1099511627776) <;> rfl
theorem isWait_F (k : Nat) (now wait : Int) : sent_isWait.F k now wait = some (waitB now wait) := by
 unfold sent_isWait.F waitB
 rw [isTime_F, isTime_F]
 cases timeB now <;> cases timeB wait <;> cases decide (0 < wait) <;> rfl
abbrev ActT := Int × Int × Int × Int × Int × List (Int × Int)
def doesF (q : Led) (a : ActT) : List Pk × Bool × Led :=
 bif Int.tmod a.1 5 == 0 then ([], (sentF q a.2.1 a.2.2.1 a.2.2.2.1 (timeB a.2.2.1)).1 == 0, (sentF q a.2.1 a.2.2.1 a.2.2.2.1 (timeB a.2.2.1)).2)
 else bif Int.tmod a.1 5 == 1 then
  ((ackF q a.2.2.2.2.2 a.2.2.1 a.2.2.2.2.1 (decide (RightB a.2.2.2.2.2)) (waitB a.2.2.1 a.2.2.2.2.1) (fun p => hasB a.2.2.2.2.2 p.1)).1 ++ (ackF q a.2.2.2.2.2 a.2.2.1 a.2.2.2.2.1 (decide (RightB a.2.2.2.2.2)) (waitB a.2.2.1 a.2.2.2.2.1) (fun p => hasB a.2.2.2.2.2 p.1)).2.1, false,
   (ackF q a.2.2.2.2.2 a.2.2.1 a.2.2.2.2.1 (decide (RightB a.2.2.2.2.2)) (waitB a.2.2.1 a.2.2.2.2.1) (fun p => hasB a.2.2.2.2.2 p.1)).2.2.2)
 else bif Int.tmod a.1 5 == 2 then ((loseF q a.2.2.1 a.2.2.2.2.1 (waitB a.2.2.1 a.2.2.2.2.1)).1, false, (loseF q a.2.2.1 a.2.2.2.2.1 (waitB a.2.2.1 a.2.2.2.2.1)).2)
 else bif Int.tmod a.1 5 == 3 then ([], false, q)
 else (q.1, false, ([], q.2))
theorem loseF_good {q : Led} (h : LedG q) (now wait : Int) (v : Bool) : LedG (loseF q now wait v).2 := by
 cases v
 ·exact h
 ·exact h.filter _
theorem loseF_len {q : Led} (h : LedG q) (now wait : Int) (v : Bool) : (loseF q now wait v).1.length ≤ 512 := by
 cases v
 ·exact Nat.zero_le _
 ·exact Nat.le_trans (List.length_filter_le _ _) h.len
theorem ackF_good {q : Led} (h : LedG q) (l : List (Int × Int)) (now wait : Int) (r v : Bool) (f : Pk → Bool) : LedG (ackF q l now wait r v f).2.2.2 ∧ (ackF q l now wait r v f).1.length ≤ 512 ∧ (ackF q l now wait r v f).2.1.length ≤ 512 := by
 unfold ackF
 have h0 : LedG q ∧ ([] : List Pk).length ≤ 512 ∧ ([] : List Pk).length ≤ 512 := ⟨h, Nat.zero_le _, Nat.zero_le _⟩
 cases r
 ·exact h0
 cases ((l.length : Nat) : Int) == 0
 case true => exact h0
 cases v
 ·exact h0
 cases decide (q.2.2.1 < (l.getLastD (0, 0)).2)
 case true => exact h0
 have hq1 : LedG (q.1.filter (fun p => !f p), (if q.2.1 < (l.getLastD (0, 0)).2 then (l.getLastD (0, 0)).2 else q.2.1), q.2.2) :=
  ⟨h.sorted.filter _, fun p hp => h.rng p (List.mem_filter.1 hp).1, h.last, Nat.le_trans (List.length_filter_le _ _) h.len⟩
 exact ⟨loseF_good hq1 now wait true, Nat.le_trans (List.length_filter_le _ _) h.len, loseF_len hq1 now wait true⟩
theorem doesF_good {q : Led} (h : LedG q) (a : ActT) : LedG (doesF q a).2.2 := by
 unfold doesF
 cases Int.tmod a.1 5 == 0
 case true => exact sentF_good h _ _ _ _
 cases Int.tmod a.1 5 == 1
 case true => exact (ackF_good h _ _ _ _ _ _).1
 cases Int.tmod a.1 5 == 2
 case true => exact loseF_good h _ _ _
 cases Int.tmod a.1 5 == 3
 case true => exact h
 exact ⟨List.Pairwise.nil, fun p hp => (by cases hp), h.last, Nat.zero_le _⟩
set_option maxHeartbeats 4000000 in
theorem f25_t (a0 : Option Addr) (k0 n t s u : Int) (A : Option Addr) (m c : Nat) : tree Try.prog noA noC Try.f25 [AV.v (.pointer a0), AV.agg [AV.v (.int .u8 k0), AV.v (.int .i64 n), AV.v (.int .i64 t), AV.v (.int .i64 s), AV.v (.int .i64 u), AV.v (.slice A m c)]] [] =
  .need (true) (
  bif Int.tmod k0 5 == 0 then (
   .call 11 ([AV.v (Value.pointer a0), AV.v (.int .i64 n), AV.v (.int .i64 t), AV.v (.int .i64 s)]) ([]) (Sh.one) ([Lf.i .i64]) ([]) (fun x0 =>
    bif x0.1 == 0 then (
     .done (AV.tup [AV.v (Value.slice none 0 0), AV.v (Value.bool true)]) ([]))
    else (
     .done (AV.tup [AV.v (Value.slice none 0 0), AV.v (Value.bool false)]) ([]))))
  else (
   bif Int.tmod k0 5 == 1 then (
    .call 13 ([AV.v (Value.pointer a0), AV.v (Value.slice A m c), AV.v (.int .i64 t), AV.v (.int .i64 u)]) ([]) (Sh.tup [(false, 1), (false, 1), (false, 1)]) ([Lf.sl, Lf.sl, Lf.i .i64]) ([]) (fun x0 =>
     .sem (Builtin.append_ #[36, 36] 36 #[Value.slice none 0 0, Value.slice x0.1.1 x0.1.2.1 x0.1.2.2]) ([Lf.sl]) (Sh.one) (fun x1 =>
      .sem (Builtin.append_ #[36, 36] 36 #[Value.slice x1.1.1 x1.1.2.1 x1.1.2.2, Value.slice x0.2.1.1 x0.2.1.2.1 x0.2.1.2.2]) ([Lf.sl]) (Sh.one) (fun x2 =>
       .done (AV.tup [AV.v (Value.slice x2.1.1 x2.1.2.1 x2.1.2.2), AV.v (Value.bool false)]) ([])))))
   else (
    bif Int.tmod k0 5 == 2 then (
     .call 17 ([AV.v (Value.pointer a0), AV.v (.int .i64 t), AV.v (.int .i64 u)]) ([]) (Sh.one) ([Lf.sl]) ([]) (fun x0 =>
      .done (AV.tup [AV.v (Value.slice x0.1.1 x0.1.2.1 x0.1.2.2), AV.v (Value.bool false)]) ([])))
    else (
     bif Int.tmod k0 5 == 3 then (
      .call 19 ([AV.v (Value.pointer a0), AV.v (.int .i64 u)]) ([]) (Sh.one) ([Lf.i .i64]) ([]) (fun x0 =>
       .done (AV.tup [AV.v (Value.slice none 0 0), AV.v (Value.bool false)]) ([])))
     else (
      .call 21 ([AV.v (Value.pointer a0)]) ([]) (Sh.one) ([Lf.sl]) ([]) (fun x0 =>
       .done (AV.tup [AV.v (Value.slice x0.1.1 x0.1.2.1 x0.1.2.2), AV.v (Value.bool false)]) ([]))))))) := by kernel_rfl
def DoesE (w : World) (g : Nat) (r : List Pk × Bool × Led) (e : Ending) (w' : World) : Prop := ∃ (B : Option Addr) (d : Nat), e = .returned (.tuple #[.slice B r.1.length d, .bool r.2.1]) ∧ Fine (lb g) w (lb g) w' ∧ LedO (fun _ => False) w' g r.2.2 ∧ OwnF w.heap.size (fun b => b < w.heap.size) w' 54 R36 B d r.1
set_option maxHeartbeats 8000000 in
theorem does_c (g : Nat) (q : Led) (k0 n t s u : Int) (A : Option Addr) (c : Nat) (l : List (Int × Int)) (w : World) (hL : LedO (fun _ => False) w g q) (hG : LedG q) (hS : SlR R30.row (lb g) w A c l) :
  Calls Try.prog 25 #[.pointer (lp g), .agg #[.int .u8 k0, .int .i64 n, .int .i64 t, .int .i64 s, .int .i64 u, .slice A l.length c]] w (DoesE w g (doesF q (k0, n, t, s, u, l))) := by
 refine enter0 (P := Try.prog) mixed noA noC [AV.v (.pointer (lp g)), AV.agg [AV.v (.int .u8 k0), AV.v (.int .i64 n), AV.v (.int .i64 t), AV.v (.int .i64 s), AV.v (.int .i64 u), AV.v (.slice A l.length c)]] Try.func25 (c := _) rfl rfl rfl (fun hF0 => ?_)
 rw [f25_t]
 obtain ⟨z, hz⟩ : ∃ z, z = doesF q (k0, n, t, s, u, l) := ⟨_, rfl⟩
 rw [← hz]
 unfold doesF at hz
 dsimp only at hz
 have hB : ∀ b, lb g b → ¬ False ∧ b < w.heap.size := fun b hb => ⟨fun h => h, (hL.lt b hb).1⟩
 have fin : ∀ (L : Nat → Prop) (w2 : World) (v : Bool) (q' : Led), z = ([], v, q') → Fine (lb g) w L w2 → LedO L w2 g q' → (XT.done (AV.tup [AV.v (Value.slice none 0 0), AV.v (Value.bool v)]) []).ok Try.prog [] (DoesE w g z) noJ L w2 := by
  intro L w2 v q' hrc hF hl
  subst hrc
  intro ρ L' w' _ he _ _
  exact ⟨none, 0, rfl, (hF.ext he).with (fun b hb => Or.inl hb), (hl.later he.fine).bare, OwnF.nil _ _ _ _ _⟩
 have fin2 : ∀ (L : Nat → Prop) (w2 : World) (ys : List Pk) (B : Option Addr) (d : Nat) (q' : Led), z = (ys, false, q') → Fine (lb g) w L w2 → LedO L w2 g q' → OwnF w.heap.size L w2 54 R36 B d ys → (XT.done (AV.tup [AV.v (Value.slice B ys.length d), AV.v (Value.bool false)]) []).ok Try.prog [] (DoesE w g z) noJ L w2 := by
  intro L w2 ys B d q' hrc hF hl hO
  subst hrc
  intro ρ L' w' _ he _ _
  exact ⟨B, d, rfl, (hF.ext he).with (fun b hb => Or.inl hb), (hl.later he.fine).bare, (hO.later he.fine).ret⟩
 refine ok_need rfl ?_
 refine ok_if (fun hc => ?_) (fun hc => ?_)
 ·rw [hc] at hz
  refine ok_callo (lb g) rfl hB (fun L w1 g1 lt1 => ?_)
  have hl1 := hL.later g1
  refine (sent_c 0 g q n t s (timeB t) (isTime_F 0 t) w1 hl1.bare hG).mono ?_
  rintro e w2 ⟨rfl, hf2, hl2⟩
  refine ⟨((sentF q n t s (timeB t)).1, ()), rfl, hf2, fun g2 hid2 hv2 => ?_⟩
  try dsimp only
  have hF2 : Fine (lb g) w L w2 := Fine.own (fine_lb g hF0) g2 (fun b hb => Or.inl hb) hid2
  have hl3 := hl2.seen (L' := L) (fun b hb => hv2 b (Or.inl hb))
  refine ok_if (fun hc2 => ?_) (fun hc2 => ?_)
  ·rw [hc2] at hz; exact fin _ _ _ _ hz hF2 hl3
  ·rw [hc2] at hz; exact fin _ _ _ _ hz hF2 hl3
 rw [hc] at hz
 refine ok_if (fun hc => ?_) (fun hc => ?_)
 ·rw [hc] at hz
  refine ok_callo (lb g) rfl hB (fun L w1 g1 lt1 => ?_)
  have hl1 := hL.later g1
  refine (ack_c (l.length + 1) g q A c l t u (decide (RightB l)) (waitB t u) (fun p => hasB l p.1) (right_F hS.2.2 (Nat.lt_succ_self _)) (isWait_F _ t u) (fun hr p _ => has_F (by have := (of_decide_eq_true hr).2; omega) (Nat.lt_succ_self _) p.1) w1 hl1.bare hG (by
   have := (hS.mono (L' := fun _ => False) (fun _ h => h.elim)).later g1
   refine hS.later ⟨g1.os, g1.tape, g1.output, g1.size, fun b hb _ => g1.keep b hb (fun h => h), fun b hb => Or.inl hb⟩)).mono ?_
  obtain ⟨y, hy⟩ : ∃ y, y = ackF q l t u (decide (RightB l)) (waitB t u) (fun p => hasB l p.1) := ⟨_, rfl⟩
  have hyg := ackF_good hG l t u (decide (RightB l)) (waitB t u) (fun p => hasB l p.1)
  rw [← hy] at hz hyg ⊢
  rintro e w2 ⟨B, d, B2, d2, rfl, hf2, hl2, hO2, hP2⟩
  refine ⟨((B, y.1.length, d), (B2, y.2.1.length, d2), y.2.2.1, ()), rfl, hf2, fun g2 hid2 hv2 => ?_⟩
  try dsimp only
  have hF2 : Fine (lb g) w L w2 := Fine.own (fine_lb g hF0) g2 (fun b hb => Or.inl hb) hid2
  have hl3 := hl2.seen (L' := L) (fun b hb => hv2 b (Or.inl hb))
  have hO3 : OwnF w.heap.size L w2 54 R36 B d y.1 := (OwnF.vis hO2 (fun b hb => hv2 b (Or.inr (OwnF.fresh hO2 b hb)))).down g1.size
  have hP3 : OwnF w.heap.size L w2 54 R36 B2 d2 y.2.1 := (OwnF.vis hP2 (fun b hb => hv2 b (Or.inr (OwnF.fresh hP2 b hb)))).down g1.size
  refine ok_app (R := R36) (base := w.heap.size) (xs := []) (ys := y.1) rfl rfl E36 (OwnF.nil _ _ _ _ _) hO3.sl (by decide) (by simp only [List.length_nil]; omega) hF2.size (fun A4 c4 L4 w4 hO4 g4 hid4 hbl4 => ?_)
  try dsimp only
  have g4' : Fine L w2 L4 w4 := ⟨g4.os, g4.tape, g4.output, g4.size, fun b hb hn => g4.keep b hb (fun h => h.elim hn (fun ⟨_, h, _⟩ => by cases h)), hid4⟩
  have hl4 := hl3.later g4'
  have hP4 := hP3.later g4'
  have hF4 : Fine (lb g) w L4 w4 := hF2.trans g4'
  rw [List.nil_append] at hO4 ⊢
  refine ok_app (R := R36) (base := w.heap.size) (xs := y.1) (ys := y.2.1) rfl rfl E36 hO4 hP4.sl (by decide) (by omega) hF4.size (fun A5 c5 L5 w5 hO5 g5 hid5 hbl5 => ?_)
  try dsimp only
  have hd : ∀ b, lb g b → ¬ blk (A4, 0, 0) b := fun b hb h => by
   have h1 := Own.base hO4 h
   have h2 := (hL.lt b hb).1
   omega
  have hl5 := hl4.others hd g5
  have hF5 : Fine (lb g) w L5 w5 := Fine.own hF4 g5 (fun b hb => Or.inr (Own.base hO4 hb)) hid5
  exact fin2 _ _ _ _ _ _ hz hF5 hl5 hO5
 rw [hc] at hz
 refine ok_if (fun hc => ?_) (fun hc => ?_)
 ·rw [hc] at hz
  refine ok_callo (lb g) rfl hB (fun L w1 g1 lt1 => ?_)
  have hl1 := hL.later g1
  refine (lose_c 0 g q t u (waitB t u) (isWait_F 0 t u) w1 hl1.bare hG).mono ?_
  rintro e w2 ⟨B, d, rfl, hf2, hl2, hO2⟩
  refine ⟨((B, (loseF q t u (waitB t u)).1.length, d), ()), rfl, hf2, fun g2 hid2 hv2 => ?_⟩
  try dsimp only
  have hF2 : Fine (lb g) w L w2 := Fine.own (fine_lb g hF0) g2 (fun b hb => Or.inl hb) hid2
  have hl3 := hl2.seen (L' := L) (fun b hb => hv2 b (Or.inl hb))
  have hO3 : OwnF w.heap.size L w2 54 R36 B d (loseF q t u (waitB t u)).1 := (OwnF.vis hO2 (fun b hb => hv2 b (Or.inr (OwnF.fresh hO2 b hb)))).down g1.size
  exact fin2 _ _ _ _ _ _ hz hF2 hl3 hO3
 rw [hc] at hz
 refine ok_if (fun hc => ?_) (fun hc => ?_)
 ·rw [hc] at hz
  refine ok_callq (dueF q u (waitB 0 u), ()) hF0 rfl (fun L w1 g1 => due_c 0 g q u (waitB 0 u) (isWait_F 0 0 u) w1 (hL.later g1).bare hG) (fun L1 w1 hF1 => ?_)
  try dsimp only
  exact fin _ _ _ _ hz (fine_lb g hF1) (hL.later hF1)
 ·rw [hc] at hz
  refine ok_callo (lb g) rfl hB (fun L w1 g1 lt1 => ?_)
  have hl1 := hL.later g1
  refine (drop_c g q w1 hl1.bare hG).mono ?_
  rintro e w2 ⟨B, d, rfl, hf2, hl2, hO2⟩
  refine ⟨((B, q.1.length, d), ()), rfl, hf2, fun g2 hid2 hv2 => ?_⟩
  try dsimp only
  have hF2 : Fine (lb g) w L w2 := Fine.own (fine_lb g hF0) g2 (fun b hb => Or.inl hb) hid2
  have hl3 := hl2.seen (L' := L) (fun b hb => hv2 b (Or.inl hb))
  have hO3 : OwnF w.heap.size L w2 54 R36 B d q.1 := (OwnF.vis hO2 (fun b hb => hv2 b (Or.inr (OwnF.fresh hO2 b hb)))).down g1.size
  exact fin2 _ _ _ _ _ _ hz hF2 hl3 hO3
end Go.Proofs.Ytkchgcefmnbebaa.X
