/- Spans: what was answered may be written over: the statement's walk. -/
import Derived.Test.YtnfaneojdfjepaaSr1
namespace Go.Proofs.Ytnfaneojdfjepaa.X
open Go Go.RowKit Go.Proofs.YtnfaneojdfjepaaW.Rx
set_option linter.unusedVariables false
set_option linter.unusedSimpArgs false
set_option maxRecDepth 10000
theorem Here.other {L L' : Nat → Prop} {w w' : World} {A B : Option Addr} {cs : List Value} (h : Here L w A cs) (hd : Dj A B) (g : Fine (fun b => L b ∨ blk (B, 0, 0) b) w L' w') : Here L' w' A cs :=
  (h.more (B := blk (B, 0, 0)) fun ad ha hb => hd ad.block ⟨ad, ha, rfl⟩ hb).later g
theorem add_same {l : Sps} {a b : Int} {k : Nat} (hl : l.length < 4611686018427387904) (hk : l.length + 300 ≤ k) : ∃ s e, spans_Add.F k l a b = some (s, e) ∧ ref05_Add.F k l a b = some (s, e) ∧ s.length ≤ 256 := by
  by_cases h : RightB l ∧ Sp (a, b)
  · obtain ⟨A, B, C, e, hc, h1, h2⟩ := add_F h.1 h.2 (k := k) (by omega)
    exact ⟨_, _, h1, h2, res_len _⟩
  · obtain ⟨h1, h2⟩ := add_bad (k := k) (by omega) h (by omega)
    exact ⟨[], 1, h1, h2, by simp⟩
/-- An answer whose numbers are not told any more. -/
def Own? (w : World) (A : Option Addr) (c n : Nat) (L : Nat → Prop) (w' : World) : Prop := ∃ xs : List (Int × Int), xs.length = n ∧ OwnF w.heap.size L w' 30 R22 A c xs
theorem Own?.later {w : World} {A : Option Addr} {c n : Nat} {L L' : Nat → Prop} {w1 w2 : World} (h : Own? w A c n L w1) (g : Fine L w1 L' w2) : Own? w A c n L' w2 := by
  obtain ⟨xs, h1, h2⟩ := h; exact ⟨xs, h1, h2.later g⟩
theorem Own?.other {w : World} {A B : Option Addr} {c n : Nat} {L L' : Nat → Prop} {w1 w2 : World} (h : Own? w A c n L w1) (hd : Dj A B) (g : Fine (fun b => L b ∨ blk (B, 0, 0) b) w1 L' w2) : Own? w A c n L' w2 := by
  obtain ⟨xs, h1, h2⟩ := h; exact ⟨xs, h1, h2.other hd g⟩
set_option maxHeartbeats 4000000 in
theorem own.c (A : Option Addr) (c : Nat) (l : Sps) (hl : l.length * 16 ≤ 140737488355328) (a b : Int) (w : World) (hS : SlR R22.row (fun _ => False) w A c l) :
    Calls Try.prog 8 (AV.gs id [AV.v (Value.slice A l.length c), AV.agg [AV.v (Value.int IntKind.i64 a), AV.v (Value.int IntKind.i64 b)]]).toArray w fun e w' => e = .returned (((Sh.one : Sh).av (vs [Lf.b] (true, ()))).g id) ∧ Below w.heap.size w w' := by
  obtain ⟨k, hk⟩ : ∃ k, l.length + 600 = k := ⟨_, rfl⟩
  have hl62 : l.length < 4611686018427387904 := by omega
  obtain ⟨s1, e1, h1, h1r, hs1⟩ := add_same (l := l) (a := a) (b := b) (k := k) hl62 (by omega)
  obtain ⟨s2, e2, h2, hs2, _⟩ := takeH (l := l) (a := a) (b := b) (n := 0) (k := k) hl62 (by omega)
  obtain ⟨s3, e3, h3, hs3⟩ : ∃ s e, spans_Top.F k l 2 = some (s, e) ∧ s.length ≤ 256 := by
    refine ⟨(topF l 2).1, (topF l 2).2, (top_F (by omega) 2 (by omega)).1, ?_⟩
    unfold topF
    split
    · rename_i h; have := h.1.2; simp; omega
    · simp
  refine enter0 mixed ownA noC [AV.v (Value.slice A l.length c), AV.agg [AV.v (Value.int IntKind.i64 a), AV.v (Value.int IntKind.i64 b)]] Try.func8 rfl rfl rfl (fun hF => ?_)
  rw [own.t]
  refine ok_app (R := R22) (base := w.heap.size) (xs := []) (ys := l) rfl rfl E22 (OwnF.nil _ _ _ _ _) (hS.later hF) (by decide) (by simpa using hl) hF.size (fun A0 c0 L0 w0 hO0 g0 hid0 hbl0 => ?_)
  have hF := Fine.own hF g0 (fun b hb => by obtain ⟨_, hb, _⟩ := hb; cases hb) hid0
  rw [List.nil_append] at hO0
  dsimp only
  refine ok_need rfl (ok_need rfl ?_)
  refine ok_callm rfl (fun L1' w1' g1 lt1 => ?_)
  refine (spans_Add.c k A l.length c l a b (s1, e1) h1 rfl w1' (hS.later (hF.trans g1)).bare).mono ?_
  rintro e w1'' ⟨A1, c1, rfl, hb1, hO1⟩
  refine ⟨((A1, s1.length, c1), e1, ()), rfl, hb1, fun g1' => ?_⟩
  try dsimp only
  have dj10 : Dj A1 A0 := Dj.new hO1.fresh (hO0.later g1).lt
  have hO1 := hO1.call (hF.trans g1).size lt1
  have hF := hF.trans g1'
  have hO0 := hO0.later g1'
  refine ok_need rfl (ok_need rfl ?_)
  refine ok_callm rfl (fun L2' w2' g2 lt2 => ?_)
  refine (spans_Take.c k A l.length c l a b (s2, e2) h2 rfl w2' (hS.later (hF.trans g2)).bare).mono ?_
  rintro e w2'' ⟨A2, c2, rfl, hb2, hO2⟩
  refine ⟨((A2, s2.length, c2), e2, ()), rfl, hb2, fun g2' => ?_⟩
  try dsimp only
  have dj20 : Dj A2 A0 := Dj.new hO2.fresh (hO0.later g2).lt
  have dj21 : Dj A2 A1 := Dj.new hO2.fresh (hO1.later g2).lt
  have hO2 := hO2.call (hF.trans g2).size lt2
  have hF := hF.trans g2'
  have hO0 := hO0.later g2'
  have hO1 := hO1.later g2'
  refine ok_callm rfl (fun L3' w3' g3 lt3 => ?_)
  refine (spans_Top.c k A l.length c l 2 (s3, e3) h3 rfl w3' (hS.later (hF.trans g3)).bare).mono ?_
  rintro e w3'' ⟨A3, c3, rfl, hb3, hO3⟩
  refine ⟨((A3, s3.length, c3), e3, ()), rfl, hb3, fun g3' => ?_⟩
  try dsimp only
  have dj30 : Dj A3 A0 := Dj.new hO3.fresh (hO0.later g3).lt
  have dj31 : Dj A3 A1 := Dj.new hO3.fresh (hO1.later g3).lt
  have dj32 : Dj A3 A2 := Dj.new hO3.fresh (hO2.later g3).lt
  have hO3 := hO3.call (hF.trans g3).size lt3
  have hF := hF.trans g3'
  have hO0 := hO0.later g3'
  have hO1 := hO1.later g3'
  have hO2 := hO2.later g3'
  refine ok_semm (fun L4 w4 hF4 hlt4 => ⟨((some ⟨w4.heap.size, 0, none⟩, 3, 3), ()), w4.alloc (.cells #[Value.slice A1 s1.length c1, Value.slice A2 s2.length c2, Value.slice A3 s3.length c3] 22), run_buildSlice w4 43 22 3 _ #[Value.slice A1 s1.length c1, Value.slice A2 s2.length c2, Value.slice A3 s3.length c3] _ _ rfl rfl rfl (by decide) (by decide) (by kernel_rfl), keeps_below hlt4 ((Below.refl w4.heap.size w4).alloc (Nat.le_refl _) _), ?_⟩)
  have hG : Fine L4 w4 L4 (w4.alloc (.cells #[Value.slice A1 s1.length c1, Value.slice A2 s2.length c2, Value.slice A3 s3.length c3] 22)) := (Fine.refl L4 w4).step ((Below.refl w4.heap.size w4).alloc (Nat.le_refl _) _)
  have hH : Here L4 (w4.alloc (.cells #[Value.slice A1 s1.length c1, Value.slice A2 s2.length c2, Value.slice A3 s3.length c3] 22)) (some ⟨w4.heap.size, 0, none⟩) [Value.slice A1 s1.length c1, Value.slice A2 s2.length c2, Value.slice A3 s3.length c3] := by
    intro j u hu
    refine ⟨⟨w4.heap.size, 0, none⟩, rfl, ?_, fun hl => Nat.lt_irrefl _ (hlt4 _ hl)⟩
    have hb : (w4.alloc (.cells #[Value.slice A1 s1.length c1, Value.slice A2 s2.length c2, Value.slice A3 s3.length c3] 22)).heap[w4.heap.size]? = some (.cells #[Value.slice A1 s1.length c1, Value.slice A2 s2.length c2, Value.slice A3 s3.length c3] 22 (0, 0)) := Array.getElem?_push_size
    have hz : (⟨w4.heap.size, 0, Option.none⟩ : Addr).add j = ⟨w4.heap.size, j, Option.none⟩ := by
      unfold Addr.add
      split
      · rename_i h0; subst h0; rfl
      · simp
    rw [hz]
    unfold World.cell?
    dsimp only
    rw [hb]
    simpa using hu
  have hO0 := hO0.later hF4
  have hO1 := hO1.later hF4
  have hO2 := hO2.later hF4
  have hO3 := hO3.later hF4
  have hF := hF.trans (hF4.trans hG)
  have djg : ∀ B, (∀ b, blk (B, 0, 0) b → b < w4.heap.size) → Dj (some ⟨w4.heap.size, 0, none⟩) B := fun B hB b h1 h2 => by
    obtain ⟨ad, e, rfl⟩ := h1
    cases e
    exact Nat.lt_irrefl _ (hB _ h2)
  have dg1 := djg A1 hO1.lt
  have dg2 := djg A2 hO2.lt
  have dg3 := djg A3 hO3.lt
  have hO0 := hO0.later hG
  have hO1 : Own? w A1 c1 s1.length _ _ := ⟨s1, rfl, hO1.later hG⟩
  have hO2 : Own? w A2 c2 s2.length _ _ := ⟨s2, rfl, hO2.later hG⟩
  have hO3 : Own? w A3 c3 s3.length _ _ := ⟨s3, rfl, hO3.later hG⟩
  clear hG hF4 djg
  generalize hgg : (some (⟨w4.heap.size, 0, none⟩ : Addr)) = G at hH dg1 dg2 dg3 ⊢
  have hGs : G.isSome = true := by rw [← hgg]; rfl
  generalize w4.alloc (.cells #[Value.slice A1 s1.length c1, Value.slice A2 s2.length c2, Value.slice A3 s3.length c3] 22) = w5 at hH hO0 hO1 hO2 hO3 hF ⊢
  clear hgg hlt4
  dsimp only
  obtain ⟨I, hI⟩ : ∃ I : Nat → Tup [Lf.i .i64] → (Nat → Prop) → World → Prop, I = (fun m y L w' => ∃ (i : Nat), y = ((i : Int), ()) ∧ i ≤ 3 ∧ m = 3 - i ∧ Fine (fun _ => False) w L w' ∧ OwnF w.heap.size L w' 30 R22 A0 c0 l ∧ Here L w' G [Value.slice A1 s1.length c1, Value.slice A2 s2.length c2, Value.slice A3 s3.length c3] ∧ (i ≤ 0 → Own? w A1 c1 s1.length L w') ∧ (i ≤ 1 → Own? w A2 c2 s2.length L w') ∧ (i ≤ 2 → Own? w A3 c3 s3.length L w')) := ⟨_, rfl⟩
  refine ok_loop I 3 (by rw [hI]; exact ⟨0, rfl, by omega, rfl, hF, hO0, hH, fun _ => hO1, fun _ => hO2, fun _ => hO3⟩) ?_
  clear hF hO0 hH hO1 hO2 hO3
  intro m y L6 w6 hy
  rw [hI] at hy
  obtain ⟨i, rfl, hi, rfl, hF, hO0, hH, hO1, hO2, hO3⟩ := hy
  dsimp only
  refine ok_if (fun hc => ?_) (fun hc => ?_)
  · have hlt : i < 3 := by have h : (i : Int) < 3 := of_decide_eq_true hc; omega
    refine ok_need (by rw [decide_eq_true (by omega : 0 ≤ (i : Int)), decide_eq_true (by omega : (i : Int) < ((3 : Nat) : Int)), hGs]; rfl) ?_
    rcases (by omega : i = 0 ∨ i = 1 ∨ i = 2) with rfl | rfl | rfl
    · obtain ⟨ys, hys, hOj⟩ := hO1 (by omega)
      refine ok_row _ ((A1, s1.length, c1), ()) hH (by simp) (fun j v hv => ?_) ?_
      · match j, hv with
        | 0, hv => simp only [Tup.V, List.getElem?_cons_zero, Option.some.injEq] at hv; subst hv; rfl
        | j + 1, hv => simp [Tup.V] at hv
      · refine inner_ok (w := w) (fun L w' => OwnF w.heap.size L w' 30 R22 A0 c0 l ∧ Here L w' G [Value.slice A1 s1.length c1, Value.slice A2 s2.length c2, Value.slice A3 s3.length c3] ∧ Own? w A2 c2 s2.length L w' ∧ Own? w A3 c3 s3.length L w') (fun L w1 L' w2 ⟨q0, qH, q2, q3⟩ g => ⟨q0.other (Dj.symm dj10) g, Here.other qH dg1 g, q2.other dj21 g, q3.other dj31 g⟩) ys hOj hys (by dsimp only; omega) hF ⟨hO0, hH, hO2 (by omega), hO3 (by omega)⟩ (fun L w' ⟨q0, qH, q2, q3⟩ hF => ?_)
        exact ok_again (I := I) (3 - (0 + 1)) (by omega) (fun L2 w2 he => by rw [hI]; exact ⟨1, by rfl, by omega, rfl, hF.ext he, q0.later he.fine, qH.later he.fine, fun h => absurd h (by omega), fun _ => q2.later he.fine, fun _ => q3.later he.fine⟩)
    · obtain ⟨ys, hys, hOj⟩ := hO2 (by omega)
      refine ok_row _ ((A2, s2.length, c2), ()) hH (by simp) (fun j v hv => ?_) ?_
      · match j, hv with
        | 0, hv => simp only [Tup.V, List.getElem?_cons_zero, Option.some.injEq] at hv; subst hv; rfl
        | j + 1, hv => simp [Tup.V] at hv
      · refine inner_ok (w := w) (fun L w' => OwnF w.heap.size L w' 30 R22 A0 c0 l ∧ Here L w' G [Value.slice A1 s1.length c1, Value.slice A2 s2.length c2, Value.slice A3 s3.length c3] ∧ Own? w A3 c3 s3.length L w') (fun L w1 L' w2 ⟨q0, qH, q3⟩ g => ⟨q0.other (Dj.symm dj20) g, Here.other qH dg2 g, q3.other dj32 g⟩) ys hOj hys (by dsimp only; omega) hF ⟨hO0, hH, hO3 (by omega)⟩ (fun L w' ⟨q0, qH, q3⟩ hF => ?_)
        exact ok_again (I := I) (3 - (1 + 1)) (by omega) (fun L2 w2 he => by rw [hI]; exact ⟨2, by rfl, by omega, rfl, hF.ext he, q0.later he.fine, qH.later he.fine, fun h => absurd h (by omega), fun h => absurd h (by omega), fun _ => q3.later he.fine⟩)
    · obtain ⟨ys, hys, hOj⟩ := hO3 (by omega)
      refine ok_row _ ((A3, s3.length, c3), ()) hH (by simp) (fun j v hv => ?_) ?_
      · match j, hv with
        | 0, hv => simp only [Tup.V, List.getElem?_cons_zero, Option.some.injEq] at hv; subst hv; rfl
        | j + 1, hv => simp [Tup.V] at hv
      · refine inner_ok (w := w) (fun L w' => OwnF w.heap.size L w' 30 R22 A0 c0 l ∧ Here L w' G [Value.slice A1 s1.length c1, Value.slice A2 s2.length c2, Value.slice A3 s3.length c3]) (fun L w1 L' w2 ⟨q0, qH⟩ g => ⟨q0.other (Dj.symm dj30) g, Here.other qH dg3 g⟩) ys hOj hys (by dsimp only; omega) hF ⟨hO0, hH⟩ (fun L w' ⟨q0, qH⟩ hF => ?_)
        exact ok_again (I := I) (3 - (2 + 1)) (by omega) (fun L2 w2 he => by rw [hI]; exact ⟨3, by rfl, by omega, rfl, hF.ext he, q0.later he.fine, qH.later he.fine, fun h => absurd h (by omega), fun h => absurd h (by omega), fun h => absurd h (by omega)⟩)
  · have hi3 : i = 3 := by have h : ¬ (i : Int) < 3 := of_decide_eq_false hc; omega
    clear hO1 hO2 hO3 hH
    refine ok_need rfl (ok_need rfl ?_)
    refine ok_callm rfl (fun L7 w7 g7 lt7 => ?_)
    refine (spans_Add.c k A l.length c l a b (s1, e1) h1 rfl w7 (hS.later (hF.trans g7)).bare).mono ?_
    rintro e w7' ⟨B1, d1, rfl, hb7, hP1⟩
    refine ⟨((B1, s1.length, d1), e1, ()), rfl, hb7, fun g7' => ?_⟩
    have hP1 := hP1.call (hF.trans g7).size lt7
    have hF := hF.trans g7'
    have hO0 := hO0.later g7'
    refine ok_need rfl (ok_need rfl ?_)
    refine ok_callm rfl (fun L8 w8 g8 lt8 => ?_)
    refine (ref05_Add.c k A0 l.length c0 l a b (s1, e1) h1r rfl w8 (hO0.later g8).sl.bare).mono ?_
    rintro e w8' ⟨B2, d2, rfl, hb8, hP2⟩
    refine ⟨((B2, s1.length, d2), e1, ()), rfl, hb8, fun g8' => ?_⟩
    have hP2 := hP2.call (hF.trans g8).size lt8
    have hF := hF.trans g8'
    have hO0 := hO0.later g8'
    have hP1 := hP1.later g8'
    have same : ∀ u : Sps, u.length < k → u.length < 9223372036854775807 → ref05_Same.F k u u = some true := fun u hu hu2 => by rw [same_F hu2 hu]; simp
    refine ok_callm rfl (fun L9 w9 g9 lt9 => ?_)
    refine (ref05_Same.c k A l.length c l A0 l.length c0 l true (same l (by omega) (by omega)) rfl rfl w9 (hS.later (hF.trans g9)).bare (hO0.later g9).sl.bare).mono ?_
    rintro e w9' ⟨rfl, hb9⟩
    refine ⟨(true, ()), rfl, hb9, fun g9' => ?_⟩
    have hF := hF.trans g9'
    have hP1 := hP1.later g9'
    have hP2 := hP2.later g9'
    refine ok_if (fun _ => ?_) (fun h => by cases h)
    refine ok_callm rfl (fun La wa ga lta => ?_)
    refine (ref05_Same.c k B1 s1.length d1 s1 B2 s1.length d2 s1 true (same s1 (by omega) (by omega)) rfl rfl wa (hP1.later ga).sl.bare (hP2.later ga).sl.bare).mono ?_
    rintro e wa' ⟨rfl, hba⟩
    refine ⟨(true, ()), rfl, hba, fun ga' => ?_⟩
    have hF := hF.trans ga'
    refine ok_if (fun _ => ?_) (fun h => by cases h)
    refine ok_callm rfl (fun Lb wb gb ltb => ?_)
    refine (law05_alive.c k true (alive_F (by omega)) wb).mono ?_
    rintro e wb' ⟨rfl, hbb⟩
    refine ⟨(true, ()), rfl, hbb, fun gb' => ?_⟩
    have hF := hF.trans gb'
    refine ok_if (fun _ => ?_) (fun h => by cases h)
    intro ρ L w' _ he _ _
    exact ⟨rfl, (hF.ext he).below⟩
end Go.Proofs.Ytnfaneojdfjepaa.X
