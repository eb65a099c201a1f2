import Derived.Test.YtkchgcefmnbebaazSl3
namespace Go.Proofs.Ytkchgcefmnbebaa.X
open Go Go.RowKit Go.Proofs.YtkchgcefmnbebaaW.Rx
set_option linter.unusedVariables false
set_option linter.unusedSimpArgs false
set_option maxRecDepth 20000
section
variable {q : Led} (h : LedT q) (wait : Int)
theorem h37_n {lg now wait : Int} {p : Pk} (hp : 0 ≤ p.1 ∧ p.1 ≤ 4611686018427387903) : h37 lg now wait p = (decide (p.1 < lg) && (decide (p.1 + 3 ≤ lg) || decide (IntKind.i64.wrap (p.2.1 + wait) ≤ now))) := by
 unfold h37
 rw [wrap_in (p.1 + 3) (by omega) (by omega)]
theorem h37_t {lg now wait : Int} {p : Pk} (hp : 0 ≤ p.1 ∧ p.1 ≤ 4611686018427387903) (ht : 0 ≤ p.2.1 ∧ p.2.1 ≤ 1099511627776) (hw : 0 ≤ wait ∧ wait ≤ 1099511627776) : h37 lg now wait p = (decide (p.1 < lg) && (decide (p.1 + 3 ≤ lg) || decide (p.2.1 + wait ≤ now))) := by
 rw [h37_n hp, wrap_in (p.2.1 + wait) (by omega) (by omega)]
theorem waitB_iff {now wait : Int} : waitB now wait = true ↔ (0 ≤ now ∧ now ≤ 1099511627776) ∧ 0 < wait ∧ wait ≤ 1099511627776 := by
 unfold waitB timeB
 simp only [Bool.and_eq_true, decide_eq_true_iff]
 omega
def q2F (q : Led) : Led := (loseF q 0 1099511627776 (waitB 0 1099511627776)).2
include h
theorem q2_t : LedT (q2F q) := loseF_t h _ _ _
theorem q2_far {p : Pk} (hp : p ∈ (q2F q).1) (hl : p.1 < (q2F q).2.1) : ¬ p.1 + 3 ≤ (q2F q).2.1 := by
 have hv : waitB 0 1099511627776 = true := by decide
 unfold q2F at hp hl ⊢
 rw [hv] at hp hl ⊢
 obtain ⟨h1, h2⟩ := List.mem_filter.1 hp
 have hr := h.good.rng' p h1
 rw [h37_n hr] at h2
 intro h3
 have h3 : p.1 + 3 ≤ q.2.1 := h3
 have hl : p.1 < q.2.1 := hl
 rw [decide_eq_true hl, decide_eq_true h3] at h2
 cases h2
theorem q2_rng {p : Pk} (hp : p ∈ (q2F q).1) : (0 ≤ p.1 ∧ p.1 ≤ 4611686018427387903) ∧ 0 ≤ p.2.1 ∧ p.2.1 ≤ 1099511627776 := by
 have h2 := q2_t h
 have := h2.trng p hp
 have := h2.time
 exact ⟨h2.good.rng' p hp, by omega, by omega⟩
theorem due_cases : (dueF (q2F q) wait (waitB 0 wait) = -1 ∧ (waitB 0 wait = false ∨ ∀ p ∈ (q2F q).1, ¬ p.1 < (q2F q).2.1)) ∨ waitB 0 wait = true ∧ ∃ p ∈ (q2F q).1, p.1 < (q2F q).2.1 ∧ dueF (q2F q) wait (waitB 0 wait) = p.2.1 + wait ∧ ∀ z ∈ (q2F q).1, z.1 < (q2F q).2.1 → p.2.1 ≤ z.2.1 := by
 unfold dueF
 cases hv : waitB 0 wait with
 | false => exact Or.inl ⟨rfl, Or.inl rfl⟩
 | true =>
  have hw := waitB_iff.1 hv
  cases hf : (q2F q).1.filter (h40 (q2F q).2.1) with
  | nil =>
   refine Or.inl ⟨rfl, Or.inr (fun p hp hl => ?_)⟩
   have : p ∈ (q2F q).1.filter (h40 (q2F q).2.1) := List.mem_filter.2 ⟨hp, decide_eq_true hl⟩
   rw [hf] at this
   cases this
  | cons p r =>
   have hp : p ∈ (q2F q).1.filter (h40 (q2F q).2.1) := by rw [hf]; exact List.mem_cons_self
   obtain ⟨h1, h2⟩ := List.mem_filter.1 hp
   have hr := q2_rng h h1
   refine Or.inr ⟨rfl, p, h1, of_decide_eq_true h2, ?_, fun z hz hl => ?_⟩
   ·show IntKind.i64.wrap (p.2.1 + wait) = _
    exact wrap_in _ (by omega) (by omega)
   ·have hzf : z ∈ (q2F q).1.filter (h40 (q2F q).2.1) := List.mem_filter.2 ⟨hz, decide_eq_true hl⟩
    have hpw := (q2_t h).times.filter (h40 (q2F q).2.1)
    rw [hf] at hzf hpw
    rcases List.mem_cons.1 hzf with e | hz'
    ·rw [e]; exact Int.le_refl _
    ·exact (List.pairwise_cons.1 hpw).1 z hz'
theorem due1 (hd : dueF (q2F q) wait (waitB 0 wait) < 0) : (loseF (q2F q) 1099511627776 wait (waitB 1099511627776 wait)).1 = [] := by
 have hww : waitB 1099511627776 wait = waitB 0 wait := by
  unfold waitB
  rw [show timeB 1099511627776 = true by decide, show timeB 0 = true by decide]
 rw [hww]
 rcases due_cases h wait with ⟨_, hv | hn⟩ | ⟨hv, p, hp, hl, he, _⟩
 ·rw [hv]; rfl
 ·cases hv : waitB 0 wait with
  | false => rfl
  | true =>
   show List.filter _ _ = []
   rw [List.filter_eq_nil_iff]
   intro p hp hh
   unfold h37 at hh
   rw [decide_eq_false (hn p hp)] at hh
   cases hh
 ·have := waitB_iff.1 hv
  have := q2_rng h hp
  omega
theorem due2 (hd0 : ¬ dueF (q2F q) wait (waitB 0 wait) < 0) : loseF (q2F q) (IntKind.i64.wrap (dueF (q2F q) wait (waitB 0 wait) - 1)) wait (waitB (IntKind.i64.wrap (dueF (q2F q) wait (waitB 0 wait) - 1)) wait) = ([], q2F q) := by
 rcases due_cases h wait with ⟨he, _⟩ | ⟨hv, p, hp, hl, he, hm⟩
 ·rw [he] at hd0; exact absurd (by decide) hd0
 ·have hw := waitB_iff.1 hv
  have hr := q2_rng h hp
  rw [he, wrap_in (p.2.1 + wait - 1) (by omega) (by omega)]
  cases hv2 : waitB (p.2.1 + wait - 1) wait with
  | false => rfl
  | true =>
   have hno : ∀ z ∈ (q2F q).1, h37 (q2F q).2.1 (p.2.1 + wait - 1) wait z = false := by
    intro z hz
    have hrz := q2_rng h hz
    rw [h37_t hrz.1 hrz.2 (by omega)]
    by_cases hlz : z.1 < (q2F q).2.1
    ·have h1 := q2_far h hz hlz
     have h2 := hm z hz hlz
     rw [decide_eq_true hlz, decide_eq_false h1, decide_eq_false (by omega : ¬ z.2.1 + wait ≤ p.2.1 + wait - 1)]
     rfl
    ·rw [decide_eq_false hlz]; rfl
   unfold loseF
   rw [cond_true]
   refine Prod.ext ?_ (Prod.ext ?_ rfl)
   ·show List.filter _ _ = []
    rw [List.filter_eq_nil_iff]
    intro z hz hh
    rw [hno z hz] at hh
    cases hh
   ·show List.filter _ _ = _
    exact List.filter_eq_self.2 (fun z hz => by rw [hno z hz]; rfl)
theorem due3 (hd0 : ¬ dueF (q2F q) wait (waitB 0 wait) < 0) (hd1 : ¬ 1099511627776 < dueF (q2F q) wait (waitB 0 wait)) : 0 < (loseF (q2F q) (dueF (q2F q) wait (waitB 0 wait)) wait (waitB (dueF (q2F q) wait (waitB 0 wait)) wait)).1.length := by
 rcases due_cases h wait with ⟨he, _⟩ | ⟨hv, p, hp, hl, he, hm⟩
 ·rw [he] at hd0; exact absurd (by decide) hd0
 ·have hw := waitB_iff.1 hv
  have hr := q2_rng h hp
  rw [he] at hd0 hd1 ⊢
  have hv2 : waitB (p.2.1 + wait) wait = true := waitB_iff.2 ⟨by omega, hw.2⟩
  rw [hv2]
  refine List.length_pos_of_mem (a := p) (List.mem_filter.2 ⟨hp, ?_⟩)
  rw [h37_t hr.1 hr.2 (by omega), decide_eq_true hl, decide_eq_true (by omega : p.2.1 + wait ≤ p.2.1 + wait), Bool.or_true]
  rfl
end
abbrev A6 : Nat → LA := fun r => if r = 5 then ⟨[(18, false, [Lf.i .i64])], []⟩ else noA r
set_option maxHeartbeats 4000000 in
theorem f6_t (A : Option Addr) (m c : Nat) (wait : Int) : tree Try.prog A6 noC Try.f6 [AV.v (.slice A m c), AV.v (.int .i64 wait)] [] =
  .call 8 ([]) ([]) (Sh.one) ([Lf.p]) ([]) (fun x0 =>
   bif Option.isNone x0.1 then (
    .done (AV.v (Value.bool false)) ([]))
   else (
    .call 10 ([]) ([]) (Sh.one) ([Lf.b]) ([]) (fun x1 =>
     bif x1.1 then (
      .loop ([Lf.i .i64]) ((0, PUnit.unit)) 0 (fun x2 =>
       bif decide (x2.1 < ((m : Nat) : Int)) then (
        .need (decide (0 ≤ x2.1) && decide (x2.1 < ((m : Nat) : Int)) && Option.isSome A) (
        .ld (Option.map (fun x => Addr.add x (Int.toNat x2.1 * 6)) A) ([Lf.i IntKind.u8, Lf.i .i64, Lf.i .i64, Lf.i .i64, Lf.i .i64, Lf.sl]) (fun x3 =>
         .call 25 ([AV.v (Value.pointer x0.1), AV.agg [AV.v (Value.int IntKind.u8 x3.1), AV.v (.int .i64 x3.2.1), AV.v (.int .i64 x3.2.2.1), AV.v (.int .i64 x3.2.2.2.1), AV.v (.int .i64 x3.2.2.2.2.1), AV.v (Value.slice x3.2.2.2.2.2.1.1 x3.2.2.2.2.2.1.2.1 x3.2.2.2.2.2.1.2.2)]]) ([]) (Sh.tup [(false, 1), (false, 1)]) ([Lf.sl, Lf.b]) ([]) (fun x4 =>
          .again 0 ([Lf.i .i64]) ((IntKind.i64.wrap (x2.1 + 1), PUnit.unit))))))
       else (
        .call 17 ([AV.v (Value.pointer x0.1), AV.v (.int .i64 0), AV.v (.int .i64 1099511627776)]) ([]) (Sh.one) ([Lf.sl]) ([]) (fun x3 =>
         .call 19 ([AV.v (Value.pointer x0.1), AV.v (.int .i64 wait)]) ([]) (Sh.one) ([Lf.i .i64]) ([]) (fun x4 =>
          bif decide (x4.1 < 0) then (
           .call 17 ([AV.v (Value.pointer x0.1), AV.v (.int .i64 1099511627776), AV.v (.int .i64 wait)]) ([]) (Sh.one) ([Lf.sl]) ([]) (fun x5 =>
            bif ((x5.1.2.1 : Nat) : Int) == 0 then (
             .done (AV.v (Value.bool true)) ([]))
            else (
             .done (AV.v (Value.bool false)) ([]))))
          else (
           bif decide (1099511627776 < x4.1) then (
            .done (AV.v (Value.bool true)) ([]))
           else (
            bif decide (0 < x4.1) then (
             .call 17 ([AV.v (Value.pointer x0.1), AV.v (.int .i64 (IntKind.i64.wrap (x4.1 - 1))), AV.v (.int .i64 wait)]) ([]) (Sh.one) ([Lf.sl]) ([]) (fun x5 =>
              bif ((x5.1.2.1 : Nat) : Int) != 0 then (
               .done (AV.v (Value.bool false)) ([]))
              else (
               .call 17 ([AV.v (Value.pointer x0.1), AV.v (.int .i64 x4.1), AV.v (.int .i64 wait)]) ([]) (Sh.one) ([Lf.sl]) ([]) (fun x6 =>
                bif decide (0 < ((x6.1.2.1 : Nat) : Int)) then (
                 .done (AV.v (Value.bool true)) ([]))
                else (
                 .done (AV.v (Value.bool false)) ([]))))))
            else (
             .call 17 ([AV.v (Value.pointer x0.1), AV.v (.int .i64 x4.1), AV.v (.int .i64 wait)]) ([]) (Sh.one) ([Lf.sl]) ([]) (fun x5 =>
              bif decide (0 < ((x5.1.2.1 : Nat) : Int)) then (
               .done (AV.v (Value.bool true)) ([]))
              else (
               .done (AV.v (Value.bool false)) ([])))))))))))
     else (
      .done (AV.v (Value.bool false)) ([]))))) := by kernel_rfl
theorem fine_lg {S L L' : Nat → Prop} {w w2 w3 : World} {g : Nat} (h : Fine (fun _ => False) w L w2) (g2 : Fine (fun b => L b ∨ lb g b) w2 L' w3) (hg : w.heap.size ≤ g) (hid : ∀ b, L' b → L b ∨ w2.heap.size ≤ b) : Fine (fun _ => False) w L' w3 :=
 Fine.own h g2 (fun b hb => Or.inr (by rcases hb with h | h <;> omega)) hid
set_option maxHeartbeats 8000000 in
theorem law_due (A : Option Addr) (c : Nat) (script : List ActT) (wait : Int) (w : World) (hS : SlR R22 (fun _ => False) w A c script) : Calls Try.prog 6 #[.slice A script.length c, .int .i64 wait] w fun e w' => e = .returned (.bool true) ∧ Below w.heap.size w w' := by
 refine enter0 (P := Try.prog) mixed A6 noC [AV.v (.slice A script.length c), AV.v (.int .i64 wait)] Try.func6 (c := _) rfl rfl rfl (fun hF0 => ?_)
 rw [f6_t]
 refine ok_newc (fun g L1 w1 hg hl1 g1 => ?_)
 try dsimp only
 have hF1 := hF0.trans g1
 refine ok_if (fun h => by simp at h) (fun _ => ?_)
 refine ok_alive (fun L2 w2 g2 => ?_)
 try dsimp only
 have hF2 := hF1.trans g2
 have hl2 := hl1.later g2
 refine ok_if (fun _ => ?_) (fun h => by simp at h)
 have hlen : script.length ≤ 9223372036854775807 := hS.2.2
 have hgw : w.heap.size ≤ g := hg
 obtain ⟨I, hI⟩ : ∃ I : Nat → Tup [Lf.i .i64] → (Nat → Prop) → World → Prop, I = (fun m y L w' => ∃ (j : Nat) (q : Led), y = ((j : Int), ()) ∧ j + m = script.length ∧ Fine (fun _ => False) w L w' ∧ LedO L w' g q ∧ LedT q) := ⟨_, rfl⟩
 refine ok_loop I script.length (by rw [hI]; exact ⟨0, q0, rfl, by omega, hF2, hl2, q0_t⟩) ?_
 intro m i L w3 hi
 rw [hI] at hi
 obtain ⟨j, q, rfl, hj, hF3, hl3, hT⟩ := hi
 try dsimp only
 refine ok_if (fun hc => ?_) (fun hc => ?_)
 ·have hc : (j : Int) < (script.length : Int) := of_decide_eq_true hc
  obtain ⟨m', rfl⟩ : ∃ m', m = m' + 1 := ⟨m - 1, by omega⟩
  obtain ⟨x, hx⟩ : ∃ x, script[j]? = some x := ⟨_, List.getElem?_eq_getElem (by omega)⟩
  have hA : A.isSome = true := hS.some (by have := (List.getElem?_eq_some_iff.1 hx).1; omega)
  refine ok_need (need3 (by omega) hc hA) ?_
  refine ok_get (R := R22) hS hF3 (getI_of hx) (by simp) (fun cs hcs => ?_)
  obtain ⟨A5, n5, c5, rfl, rfl, h5⟩ := hcs
  refine ⟨(x.1, x.2.1, x.2.2.1, x.2.2.2.1, x.2.2.2.2.1, (A5, x.2.2.2.2.2.length, c5), ()), rfl, ?_⟩
  try dsimp only
  refine ok_does hl3 hT.good (h5.later (hF3.with (B := fun b => L b ∨ lb g b) (fun b hb => hb.elim (hF3.hid b) (fun h => Or.inr (by rcases h with h | h <;> omega))))) (fun B d L4 w4 hl4 g4 hid4 hO4 => ?_)
  have hF4 := fine_lg (S := L) hF3 g4 hgw hid4
  refine ok_again (I := I) m' (Nat.lt_succ_self _) (fun L8 w8 he => ?_)
  rw [hI]
  exact ⟨j + 1, _, by rw [wrap_in ((j : Int) + 1) (by omega) (by omega)]; rfl, by omega, hF4.trans he.fine, hl4.later he.fine, doesF_t hT _⟩
 ·refine ok_lose hl3 hT.good (fun B d L4 w4 hl4 g4 hid4 _ => ?_)
  try dsimp only
  have hF4 := fine_lg (S := L) hF3 g4 hgw hid4
  have hT2 := q2_t hT
  have hl4 : LedO L4 w4 g (q2F q) := hl4
  refine ok_duec hl4 hT2.good (fun L5 w5 g5 => ?_)
  try dsimp only
  have hF5 := hF4.trans g5
  have hl5 := hl4.later g5
  refine ok_if (fun hc1 => ?_) (fun hc1 => ?_)
  ·have hc1 : dueF (q2F q) wait (waitB 0 wait) < 0 := of_decide_eq_true hc1
   refine ok_lose hl5 hT2.good (fun B d L6 w6 hl6 g6 hid6 _ => ?_)
   try dsimp only
   have hF6 := fine_lg (S := L) hF5 g6 hgw hid6
   rw [due1 hT wait hc1]
   refine ok_if (fun _ => ?_) (fun h => by simp at h)
   exact ok_done hF6 rfl rfl
  ·have hc1 : ¬ dueF (q2F q) wait (waitB 0 wait) < 0 := of_decide_eq_false hc1
   refine ok_if (fun hc2 => ?_) (fun hc2 => ?_)
   ·exact ok_done hF5 rfl rfl
   ·have hc2 : ¬ 1099511627776 < dueF (q2F q) wait (waitB 0 wait) := of_decide_eq_false hc2
    refine ok_if (fun hc3 => ?_) (fun hc3 => ?_)
    ·refine ok_lose hl5 hT2.good (fun B d L6 w6 hl6 g6 hid6 _ => ?_)
     try dsimp only
     have hF6 := fine_lg (S := L) hF5 g6 hgw hid6
     rw [due2 hT wait hc1] at hl6 ⊢
     refine ok_if (fun h => by simp at h) (fun _ => ?_)
     refine ok_lose hl6 hT2.good (fun B d L7 w7 hl7 g7 hid7 _ => ?_)
     try dsimp only
     have hF7 := fine_lg (S := L) hF6 g7 hgw hid7
     have h3 := due3 hT wait hc1 hc2
     refine ok_if (fun _ => ?_) (fun h => absurd (of_decide_eq_false h) (by omega))
     exact ok_done hF7 rfl rfl
    ·refine ok_lose hl5 hT2.good (fun B d L7 w7 hl7 g7 hid7 _ => ?_)
     try dsimp only
     have hF7 := fine_lg (S := L) hF5 g7 hgw hid7
     have h3 := due3 hT wait hc1 hc2
     refine ok_if (fun _ => ?_) (fun h => absurd (of_decide_eq_false h) (by omega))
     exact ok_done hF7 rfl rfl
end Go.Proofs.Ytkchgcefmnbebaa.X
