import Derived.Test.YtkchgcefmnbebaazSl6
namespace Go.Proofs.Ytkchgcefmnbebaa.X
open Go Go.RowKit Go.Proofs.YtkchgcefmnbebaaW.Rx
set_option linter.unusedVariables false
set_option linter.unusedSimpArgs false
set_option maxRecDepth 20000
theorem doesF_len {q : Led} (h : LedG q) (a : ActT) : (doesF q a).1.length ≤ 1024 := by
 unfold doesF
 cases Int.tmod a.1 5 == 0
 case true => exact Nat.zero_le _
 cases Int.tmod a.1 5 == 1
 case true =>
  have := ackF_good h a.2.2.2.2.2 a.2.2.1 a.2.2.2.2.1 (decide (RightB a.2.2.2.2.2)) (waitB a.2.2.1 a.2.2.2.2.1) (fun p => hasB a.2.2.2.2.2 p.1)
  simp only [cond_true, cond_false, List.length_append]
  omega
 cases Int.tmod a.1 5 == 2
 case true => exact Nat.le_trans (loseF_len h _ _ _) (by decide)
 cases Int.tmod a.1 5 == 3
 case true => exact Nat.zero_le _
 exact Nat.le_trans h.len (by decide)
theorem strike_int {l : List Int} {ys : List Pk} {j : Nat} {p : Pk} (h : ys[j]? = some p) : (l.filter fun x => (ys.take j).all fun z => x != z.1).filter (fun x => x != p.1) = l.filter fun x => (ys.take (j + 1)).all fun z => x != z.1 := by
 rw [List.filter_filter]
 apply List.filter_congr
 intro x _
 rw [List.take_add_one, h]
 simp [Bool.and_comm]
theorem map_lt {l : List Pk} (h : l.Pairwise fun x y => x.1 < y.1) : (l.map (·.1)).Pairwise (fun x y => x < y) := List.pairwise_map.2 h
section
variable {Q : Ending → World → Prop} {pin : List (Nat × Nat)} {J : Jt} {Lu : Nat → Prop} {wu : World}
set_option maxHeartbeats 8000000 in
theorem ok_tail4 {g b base d : Nat} {B : Option Addr} {ys l : List Pk} {q : Led} {j : Int} (hl : LedO Lu wu g q) (hG : LedG q) (ho : OpenO Lu wu b (l.map (·.1))) (hsl : l.Pairwise fun x y => x.1 < y.1) (hst : Sett l ys q.1) (hgb : ¬ lb g b) (hbb : b < base) (hY : OwnF base Lu wu 54 R36 B d ys) (hyl : ys.length ≤ 1024)
  (hk : ∀ L w, LedO L w g q → OpenO L w b (q.1.map (·.1)) → Fine (fun c => Lu c ∨ c = b) wu L w → (∀ c, L c → Lu c ∨ wu.heap.size ≤ c) → (XT.again 0 [Lf.i .i64] (IntKind.i64.wrap (j + 1), PUnit.unit)).ok Try.prog pin Q J L w) :
  (tail4 (some b) (lp g) B ys.length j).ok Try.prog pin Q J Lu wu := by
 unfold tail4
 have hBb : ∀ c, blk (B, 0, 0) c → ¬ c = b := fun c hc e => by have := Own.base hY hc; omega
 obtain ⟨I, hI⟩ : ∃ I : Nat → Tup [Lf.i .i64] → (Nat → Prop) → World → Prop, I = (fun m y L w' => ∃ i : Nat, y = ((i : Int), ()) ∧ i + m = ys.length ∧ Fine (fun c => Lu c ∨ c = b) wu L w' ∧ (∀ c, L c → Lu c ∨ wu.heap.size ≤ c) ∧ LedO L w' g q ∧ OpenO L w' b ((l.map (·.1)).filter fun n => (ys.take i).all fun z => n != z.1) ∧ OwnF base L w' 54 R36 B d ys) := ⟨_, rfl⟩
 refine ok_loop I ys.length (by
  rw [hI]
  refine ⟨0, rfl, by omega, ⟨rfl, rfl, rfl, Nat.le_refl _, fun _ _ _ => rfl, fun c hc => Or.inl (Or.inl hc)⟩, fun c hc => Or.inl hc, hl, ?_, hY⟩
  rw [List.filter_eq_self.2 (fun x hx => by simp)]
  exact ho) ?_
 clear hl ho hY
 intro m y L w hi
 rw [hI] at hi
 obtain ⟨i, rfl, hi, hF, hid, hl, ho, hY⟩ := hi
 try dsimp only
 refine ok_if (fun hc => ?_) (fun hc => ?_)
 ·have hc : (i : Int) < (ys.length : Int) := of_decide_eq_true hc
  obtain ⟨m', rfl⟩ : ∃ m', m = m' + 1 := ⟨m - 1, by omega⟩
  obtain ⟨p, hp⟩ : ∃ p, ys[i]? = some p := ⟨_, List.getElem?_eq_getElem (by omega)⟩
  have hpm := List.mem_of_getElem? hp
  have hB : B.isSome = true := hY.sl.some (by omega)
  refine ok_need (need3 (by omega) hc hB) ?_
  refine ok_get (R := R36.row) hY.sl (Fine.refl _ _) (getI_of hp) (by simp) (fun cs hcs => ⟨(p.1, p.2.1, p.2.2, ()), by rw [hcs]; rfl, ?_⟩)
  try dsimp only
  refine ok_look ho rfl rfl rfl rfl (fun L1 w1 g1 => ?_)
  try dsimp only
  have hin : p.1 ∈ (l.map (·.1)).filter fun n => (ys.take i).all fun z => n != z.1 := by
   refine List.mem_filter.2 ⟨List.mem_map.2 ⟨p, hst.1 p hpm, rfl⟩, ?_⟩
   rw [List.all_eq_true]
   intro z hz
   obtain ⟨k, hk1, hk2⟩ := List.mem_take_iff_getElem.1 hz
   have hpw := List.pairwise_iff_getElem.1 hst.2.1 k i (by omega) (by omega) (by omega)
   have e1 : ys[i] = p := (List.getElem?_eq_some_iff.1 hp).2
   rw [hk2, e1] at hpw
   simpa using Ne.symm hpw
  refine ok_if (fun _ => ?_) (fun h => absurd hin (of_decide_eq_false h))
  refine ok_del4 (ho.later g1) rfl rfl ((map_lt hsl).filter _) (fun L2 w2 ho2 g2 hid2 => ?_)
  rw [strike_int hp] at ho2
  have hl1 := hl.later g1
  have hl2 := hl1.others (B := fun c => c = b) (fun c hc e => hgb (e ▸ hc)) g2
  have hY2 := OwnF.others (hY.later g1) hBb g2
  have hF2 : Fine (fun c => Lu c ∨ c = b) wu L2 w2 := Fine.own (hF.trans g1) g2 (fun c hc => Or.inl (Or.inr hc)) hid2
  have hid2' : ∀ c, L2 c → Lu c ∨ wu.heap.size ≤ c := fun c hc => by
   rcases hid2 c hc with h | h
   ·rcases g1.hid c h with h | h
    ·exact hid c h
    ·exact Or.inr (Nat.le_trans hF.size h)
   ·exact Or.inr (Nat.le_trans (hF.trans g1).size h)
  refine ok_again (I := I) m' (Nat.lt_succ_self _) (fun L8 w8 he => ?_)
  rw [hI]
  refine ⟨i + 1, by rw [wrap_in ((i : Int) + 1) (by omega) (by omega)]; rfl, by omega, hF2.trans he.fine, fun c hc => ?_, hl2.later he.fine, ho2.later he.fine, hY2.later he.fine⟩
  rcases he.fine.hid c hc with h | h
  ·exact hid2' c h
  ·exact Or.inr (Nat.le_trans hF2.size h)
 ·have hc : ¬ (i : Int) < (ys.length : Int) := of_decide_eq_false hc
  have hie : i = ys.length := by omega
  subst hie
  have hos : ((l.map (·.1)).filter fun n => (ys.take ys.length).all fun z => n != z.1) = q.1.map (·.1) := by
   rw [List.take_length, List.filter_map, hst.2.2]
   rfl
  rw [hos] at ho
  refine ok_outc hl hG (fun B9 d9 L1 w1 g1 hO1 => ?_)
  try dsimp only
  have hl1 := hl.later g1
  have ho1 := ho.later g1
  refine ok_len4 ho1 rfl (fun L2 w2 g2 => ?_)
  try dsimp only
  refine ok_if (fun h => by simp at h) (fun _ => ?_)
  have hqlen := hG.len
  have g12 := g1.trans g2
  have hid2 : ∀ c, L2 c → Lu c ∨ wu.heap.size ≤ c := fun c hc => by
   rcases g12.hid c hc with h | h
   ·exact hid c h
   ·exact Or.inr (Nat.le_trans hF.size h)
  obtain ⟨I2, hI2⟩ : ∃ I : Nat → Tup [Lf.i .i64] → (Nat → Prop) → World → Prop, I = (fun m z L w' => ∃ (i : Nat), z = ((i : Int), ()) ∧ i + m = q.1.length ∧ Fine (fun c => Lu c ∨ c = b) wu L w' ∧ (∀ c, L c → Lu c ∨ wu.heap.size ≤ c) ∧ LedO L w' g q ∧ OpenO L w' b (q.1.map (·.1)) ∧ SlR R36.row L w' B9 d9 q.1) := ⟨_, rfl⟩
  refine ok_loop I2 q.1.length (by rw [hI2]; exact ⟨0, rfl, by omega, hF.trans g12, hid2, hl.later g12, ho.later g12, hO1.sl.later g2⟩) ?_
  clear hO1 hl1 ho1 g1 g2 g12 hid2 hl ho hF hid hY
  intro m2 i2 L7 w7 hi2
  rw [hI2] at hi2
  obtain ⟨i2, rfl, hi2, hF7, hid7, hl7, ho7, hP7⟩ := hi2
  try dsimp only
  refine ok_if (fun hc3 => ?_) (fun hc3 => ?_)
  ·have hc3 : (i2 : Int) < (q.1.length : Int) := of_decide_eq_true hc3
   obtain ⟨m2', rfl⟩ : ∃ m', m2 = m' + 1 := ⟨m2 - 1, by omega⟩
   obtain ⟨p, hp⟩ : ∃ p, q.1[i2]? = some p := ⟨_, List.getElem?_eq_getElem (by omega)⟩
   have hpm := List.mem_of_getElem? hp
   have hB9 : B9.isSome = true := hP7.some (by omega)
   have again1 : ∀ (L8 : Nat → Prop) (w8 : World), Fine L7 w7 L8 w8 → (XT.again 1 [Lf.i .i64] (IntKind.i64.wrap ((i2 : Int) + 1), PUnit.unit)).ok Try.prog pin Q ((J.set 1 fun ls' z L' w' => ∃ h : ls' = [Lf.i .i64], ∃ m_1, m_1 < m ∧ I m_1 (h ▸ z) L' w').set 1 fun ls' z L' w' => ∃ h : ls' = [Lf.i .i64], ∃ m, m < m2' + 1 ∧ I2 m (h ▸ z) L' w') L8 w8 := by
    intro L8 w8 g8
    refine ok_again (I := I2) m2' (Nat.lt_succ_self _) (fun L9 w9 he => ?_)
    rw [hI2]
    have gg := g8.trans he.fine
    refine ⟨i2 + 1, by rw [wrap_in ((i2 : Int) + 1) (by omega) (by omega)]; rfl, by omega, hF7.trans gg, fun c hc => ?_, hl7.later gg, ho7.later gg, hP7.later gg⟩
    rcases gg.hid c hc with h | h
    ·exact hid7 c h
    ·exact Or.inr (Nat.le_trans hF7.size h)
   refine ok_need (need3 (by omega) hc3 hB9) ?_
   refine ok_get (R := R36.row) hP7 (Fine.refl _ _) (getI_of hp) (by simp) (fun cs hcs => ⟨(p.1, p.2.1, p.2.2, ()), by rw [hcs]; rfl, ?_⟩)
   try dsimp only
   refine ok_look ho7 rfl rfl rfl rfl (fun L8 w8 g8 => ?_)
   try dsimp only
   refine ok_if (fun _ => ?_) (fun h => absurd (List.mem_map.2 ⟨p, hpm, rfl⟩) (of_decide_eq_false h))
   refine ok_if (fun h0 => ?_) (fun _ => again1 _ _ g8)
   have h0 : (0 : Int) < (i2 : Int) := of_decide_eq_true h0
   obtain ⟨i3, rfl⟩ : ∃ i3, i2 = i3 + 1 := ⟨i2 - 1, by omega⟩
   have hw : IntKind.i64.wrap (((i3 + 1 : Nat) : Int) - 1) = (i3 : Int) := by
    rw [wrap_in _ (by omega) (by omega)]; omega
   obtain ⟨p0, hp0⟩ : ∃ p, q.1[i3]? = some p := ⟨_, List.getElem?_eq_getElem (by omega)⟩
   rw [hw]
   refine ok_need (need3 (by omega) (by omega) hB9) (ok_need (by rw [Option.isSome_map]; exact hB9) ?_)
   refine ok_getf (R := R36.row) 0 (hP7.later g8) (Fine.refl _ _) (getI_of hp0) (fun cs hcs => ⟨p0.1, by rw [hcs]; rfl, ?_⟩)
   try dsimp only
   have hlt : p0.1 < p.1 := by
    have := List.pairwise_iff_getElem.1 hG.sorted i3 (i3 + 1) (by omega) (by omega) (by omega)
    rw [(List.getElem?_eq_some_iff.1 hp).2, (List.getElem?_eq_some_iff.1 hp0).2] at this
    exact this
   exact ok_if (fun h => by
    have h : p.1 ≤ p0.1 := of_decide_eq_true h
    omega) (fun _ => again1 _ _ g8)
  ·exact ok_up (ok_up (hk L7 w7 hl7 ho7 hF7 hid7) (by decide)) (by decide)
end
set_option maxHeartbeats 8000000 in
theorem law_once (A : Option Addr) (c : Nat) (script : List ActT) (w : World) (hS : SlR R22 (fun _ => False) w A c script) : Calls Try.prog 4 #[.slice A script.length c] w fun e w' => e = .returned (.bool true) ∧ Below w.heap.size w w' := by
 refine enter0 (P := Try.prog) mixed A4 noC [AV.v (.slice A script.length c)] Try.func4 (c := _) rfl rfl rfl (fun hF0 => ?_)
 rw [f4_t]
 refine ok_newc (fun g L1 w1 hg hl1 g1 => ?_)
 try dsimp only
 have hF1 := hF0.trans g1
 refine ok_if (fun h => by simp at h) (fun _ => ?_)
 refine ok_alive (fun L2 w2 g2 => ?_)
 try dsimp only
 have hF2 := hF1.trans g2
 have hl2 := hl1.later g2
 refine ok_if (fun _ => ?_) (fun h => by simp at h)
 have hlen : script.length ≤ 9223372036854775807 := hS.2.2
 have hgw : w.heap.size ≤ g := hg
 refine ok_mk4 (fun b L3 w3 hb ho3 g3 => ?_)
 try dsimp only
 have hF3 := hF2.trans g3
 have hl3 := hl2.later g3
 have hgb : ¬ lb g b := fun h => by have := (hl2.lt b h).1; omega
 have hwb : w.heap.size ≤ b := Nat.le_trans hF2.size hb
 obtain ⟨I, hI⟩ : ∃ I : Nat → Tup [Lf.i .i64] → (Nat → Prop) → World → Prop, I = (fun m y L w' => ∃ (j : Nat) (q : Led), y = ((j : Int), ()) ∧ j + m = script.length ∧ Fine (fun _ => False) w L w' ∧ LedO L w' g q ∧ LedG q ∧ OpenO L w' b (q.1.map (·.1))) := ⟨_, rfl⟩
 refine ok_loop I script.length (by rw [hI]; exact ⟨0, q0, rfl, by omega, hF3, hl3, q0_good, ho3⟩) ?_
 clear hF3 hl3 ho3 g3
 intro m i L w3 hi
 rw [hI] at hi
 obtain ⟨j, q, rfl, hj, hF3, hl3, hG, ho3⟩ := hi
 try dsimp only
 refine ok_if (fun hc => ?_) (fun hc => ?_)
 ·have hc : (j : Int) < (script.length : Int) := of_decide_eq_true hc
  obtain ⟨m', rfl⟩ : ∃ m', m = m' + 1 := ⟨m - 1, by omega⟩
  obtain ⟨x, hx⟩ : ∃ x, script[j]? = some x := ⟨_, List.getElem?_eq_getElem (by omega)⟩
  have hA : A.isSome = true := hS.some (by have := (List.getElem?_eq_some_iff.1 hx).1; omega)
  refine ok_need (need3 (by omega) hc hA) ?_
  refine ok_get (R := R22) hS hF3 (getI_of hx) (by simp) (fun cs hcs => ?_)
  obtain ⟨A5, n5, c5, rfl, rfl, h5⟩ := hcs
  refine ⟨(x.1, x.2.1, x.2.2.1, x.2.2.2.1, x.2.2.2.2.1, (A5, x.2.2.2.2.2.length, c5), ()), rfl, ?_⟩
  try dsimp only
  obtain ⟨r, hr⟩ : ∃ r, r = doesF q (x.1, x.2.1, x.2.2.1, x.2.2.2.1, x.2.2.2.2.1, x.2.2.2.2.2) := ⟨_, rfl⟩
  have honce := doesF_once hG (x.1, x.2.1, x.2.2.1, x.2.2.2.1, x.2.2.2.2.1, x.2.2.2.2.2)
  have hGr := doesF_good hG (x.1, x.2.1, x.2.2.1, x.2.2.2.1, x.2.2.2.2.1, x.2.2.2.2.2)
  refine ok_does hl3 hG (h5.later (hF3.with (B := fun b => L b ∨ lb g b) (fun b hb => hb.elim (hF3.hid b) (fun h => Or.inr (by rcases h with h | h <;> omega))))) (fun B d L4 w4 hl4 g4 hid4 hO4 => ?_)
  rw [← hr] at hl4 hO4 honce hGr ⊢
  try dsimp only
  have hF4 := fine_lg (S := L) hF3 g4 hgw hid4
  have ho4 := ho3.others (B := lb g) hgb g4
  have hbs : b < w3.heap.size := ho3.lt
  have again0 : ∀ (L5 : Nat → Prop) (w5 : World), LedO L5 w5 g r.2.2 → OpenO L5 w5 b (r.2.2.1.map (·.1)) → Fine (fun _ => False) w L5 w5 → (XT.again 0 [Lf.i .i64] (IntKind.i64.wrap ((j : Int) + 1), PUnit.unit)).ok Try.prog [] (fun e w' => e = .returned (.bool true) ∧ Below w.heap.size w w') (noJ.set 0 fun ls' z L' w' => ∃ h : ls' = [Lf.i .i64], ∃ m, m < m' + 1 ∧ I m (h ▸ z) L' w') L5 w5 := by
   intro L5 w5 hl5 ho5 hF5
   refine ok_again (I := I) m' (Nat.lt_succ_self _) (fun L8 w8 he => ?_)
   rw [hI]
   exact ⟨j + 1, r.2.2, by rw [wrap_in ((j : Int) + 1) (by omega) (by omega)]; rfl, by omega, hF5.trans he.fine, hl5.later he.fine, hGr, ho5.later he.fine⟩
  refine ok_if (fun hone => ?_) (fun hone => ?_)
  ·rcases honce with ⟨_, h1, ⟨t, s, h2⟩, h3⟩ | ⟨h1, _⟩
   ·have hnot : ¬ x.2.1 ∈ q.1.map (·.1) := fun h => by
     obtain ⟨p, hp, e⟩ := List.mem_map.1 h
     have := h3 p hp
     dsimp only at this
     omega
    refine ok_look ho4 rfl rfl rfl rfl (fun L5 w5 g5 => ?_)
    try dsimp only
    refine ok_if (fun h => absurd (of_decide_eq_true h) hnot) (fun _ => ?_)
    refine ok_put4 (ho4.later g5) rfl rfl hnot (fun L6 w6 ho6 g6 hid6 => ?_)
    have e6 : q.1.map (·.1) ++ [x.2.1] = r.2.2.1.map (·.1) := by rw [h2, List.map_append]; rfl
    rw [e6] at ho6
    have hl6 := (hl4.later g5).others (B := fun c => c = b) (fun c hc e => hgb (e ▸ hc)) g6
    have hO6 := OwnF.others (hO4.later g5) (B := fun c => c = b) (fun c hc e => by have := Own.base hO4 hc; omega) g6
    have hF6 : Fine (fun _ => False) w L6 w6 := Fine.own (hF4.trans g5) g6 (fun c hc => Or.inr (by omega)) hid6
    refine ok_tail4 (base := w3.heap.size) hl6 hGr ho6 hGr.sorted (by rw [h1]; exact sett_nil _) hgb hbs hO6 (by rw [h1]; exact Nat.zero_le _) (fun L7 w7 hl7 ho7 g7 hid7 => ?_)
    exact again0 _ _ hl7 ho7 (Fine.own hF6 g7 (fun c hc => Or.inr (by omega)) hid7)
   ·rw [h1] at hone; cases hone
  ·rcases honce with ⟨h1, _⟩ | ⟨_, hst⟩
   ·rw [h1] at hone; cases hone
   ·have hyl : r.1.length ≤ 1024 := by
     rw [hr]
     exact doesF_len hG _
    refine ok_tail4 (base := w3.heap.size) hl4 hGr ho4 hG.sorted hst hgb hbs hO4 hyl (fun L7 w7 hl7 ho7 g7 hid7 => ?_)
    exact again0 _ _ hl7 ho7 (Fine.own hF4 g7 (fun c hc => Or.inr (by omega)) hid7)
 ·exact ok_done hF3 rfl rfl
end Go.Proofs.Ytkchgcefmnbebaa.X
