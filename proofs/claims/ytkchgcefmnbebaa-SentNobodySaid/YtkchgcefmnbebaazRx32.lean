import Derived.Test.YtkchgcefmnbebaazRx31
namespace Go.Proofs.YtkchgcefmnbebaaW.Rx
open Go Go.RowKit
set_option linter.unusedVariables false
section
variable {α : Type} {P : Program} {Q : Ending → World → Prop} {pin : List (Nat × Nat)} {J : Jt} {L L' Lu : Nat → Prop} {wu w w' : World} {R : FRow α} {base e : Nat} {A : Option Addr} {c : Nat} {xs : List α}
theorem OwnF.vis (h : OwnF base L w e R A c xs) (hv : ∀ b, blk (A, 0, 0) b → ¬ L' b) : OwnF base L' w e R A c xs := ⟨h.1, fun ad ha => ⟨(h.2 ad ha).1, hv _ ⟨ad, ha, rfl⟩⟩⟩
theorem OwnF.bare (h : OwnF base L w e R A c xs) : OwnF base (fun _ => False) w e R A c xs := OwnF.vis h (fun _ _ h => h)
theorem OwnF.down {base' : Nat} (h : OwnF base L w e R A c xs) (hb : base' ≤ base) : OwnF base' L w e R A c xs := by
 refine ⟨⟨h.1.1, ?_⟩, h.2⟩
 rcases h.1.2 with h1 | ⟨g, cap, cur, h1, h2, h3⟩
 ·exact Or.inl h1
 ·exact Or.inr ⟨g, cap, cur, h1, Nat.le_trans hb h2, h3⟩
theorem SlR.spot {β : Type} {R : Row β} {x : β} (h : SlR R L w A c [x]) : ∀ a, A = Option.some a → a.spot = Option.none := by
 obtain ⟨⟨cs, h1, h2⟩, h3⟩ := h
 intro a ha
 have hl := h2.length
 have hp := R.pos
 simp only [List.length_cons, List.length_nil, Nat.zero_add, Nat.one_mul] at hl
 obtain ⟨u, hu⟩ : ∃ u, cs[0]? = Option.some u := ⟨_, List.getElem?_eq_getElem (by omega)⟩
 obtain ⟨ad, e, hc, _⟩ := h1 0 u hu
 rw [ha] at e
 cases e
 exact (cell_spot hc).1
theorem SlR.below {β : Type} {R : Row β} {X : Nat → Prop} {l : List β} (h : SlR R X w A c l) (hb : Below w.heap.size w w') : SlR R X w' A c l :=
 SlR.later h (L' := X) ⟨hb.os, hb.tape, hb.output, hb.size, fun k hk _ => hb.block k hk, fun _ h => Or.inl h⟩
theorem ok_putF {x x' : α} {vals : List AV} {vs : List Value} {k : XT} (i off : Nat) (ho : OwnF base Lu wu e R A c xs) (hx : xs[i]? = some x) (hoff : off + vs.length ≤ R.n) (he : R.enc x' = (R.enc x).take off ++ vs ++ (R.enc x).drop (off + vs.length)) (hv : ∀ ρ, AV.gs ρ vals = vs)
  (hk : ∀ L w, OwnF base L w e R A c (xs.set i x') → Fine (fun b => Lu b ∨ blk (A, 0, 0) b) wu L w → (∀ q, L q → Lu q ∨ wu.heap.size ≤ q) → k.ok P pin Q J L w) : (XT.sto ((A.map (fun a => a.add (i * R.n))).map (fun a => a.add off)) vals [] k).ok P pin Q J Lu wu := by
 intro ρ L w _ hE _
 have ho := OwnF.later ho hE.fine
 have hi := (List.getElem?_eq_some_iff.1 hx).1
 obtain ⟨⟨hl, hrow⟩, hvis⟩ := ho
 dsimp only at hl hrow hvis
 rcases hrow with ⟨hv0, hn⟩ | ⟨g, cap, cur, hvv, k2, k5, k6, k7, k8, k9⟩
 ·rw [List.eq_nil_of_length_eq_zero hn] at hi; simp at hi
 simp only [Lf.V, Value.slice.injEq] at hvv
 obtain ⟨rfl, -, rfl⟩ := hvv
 have k3 := hvis _ rfl
 have hle : i * R.n + R.n ≤ xs.length * R.n := by
  rw [← Nat.succ_mul]; exact Nat.mul_le_mul_right _ hi
 have hcl : xs.length * R.n ≤ c * R.n := Nat.mul_le_mul_right _ k6
 have hvl : vals.length = vs.length := by rw [← gs_len ρ vals, hv ρ]
 have hadd : ((⟨g, 0, none⟩ : Addr).add (i * R.n)).add off = ⟨g, i * R.n + off, none⟩ := by
  unfold Addr.add
  by_cases h1 : i * R.n = 0
  ·rw [if_pos h1, h1]
   by_cases h2 : off = 0
   ·rw [if_pos h2, h2]
   ·rw [if_neg h2, Nat.zero_add]
  ·rw [if_neg h1]
   by_cases h2 : off = 0
   ·rw [if_pos h2, h2]; simp
   ·rw [if_neg h2]; simp <;> omega
 refine ⟨⟨g, i * R.n + off, none⟩, by simp [hadd], rfl, k3.2, fun j hj => ?_, ?_⟩
 ·constructor
  ·unfold World.cell?
   dsimp only
   rw [k5]
   have : i * R.n + off + j < cur.size := by omega
   simp [this]
  ·unfold World.frozen?
   dsimp only
   rw [k5]
   simp
 ·rw [hv ρ]
  obtain ⟨cur', q1, q2, q3⟩ := Go.Proofs.YtkchgcefmnbebaaW.PrintWords.setCells_row vs (i * R.n + off) w cur k5 (by omega)
  obtain ⟨s1, s2, s3, s4⟩ := Go.Proofs.YtkchgcefmnbebaaW.PrintWords.setCells_same g vs (i * R.n + off) w
  refine hk L _ ⟨⟨flatMap_len _, Or.inr ⟨g, c, cur', rfl, k2, q1, by rw [List.length_set]; exact k6, k7, by rw [q2]; exact k8, ?_⟩⟩, fun ad ha => by cases ha; exact ⟨by rw [s4]; exact k3.1, k3.2⟩⟩ ?_ hE.fine.hid
  ·rw [q3, List.length_set]
   have := splice cur.toList vs 0 (i * R.n + off) (xs.length * R.n) (by omega) (by rw [show cur.toList.length = cur.size from Array.length_toList, Nat.zero_add, k8]; exact hcl)
   simp only [Nat.zero_add, List.drop_zero] at this
   rw [this, k9, flat_put hx hoff he]
  ·refine ⟨s1.trans hE.fine.os, s2.trans hE.fine.tape, s3.trans hE.fine.output, by rw [s4]; exact hE.fine.size, fun b hb hS => ?_, fun b hb => ?_⟩
   ·rw [Go.Proofs.YtkchgcefmnbebaaW.PrintWords.setCells_far vs (i * R.n + off) b (fun h => hS (Or.inr ⟨_, rfl, h.symm⟩))]
    exact hE.fine.keep b hb (fun h => hS (Or.inl h))
   ·rcases hE.fine.hid b hb with h | h
    ·exact Or.inl (Or.inl h)
    ·exact Or.inr h
end
end Go.Proofs.YtkchgcefmnbebaaW.Rx
