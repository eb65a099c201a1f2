import Derived.Test.YtpdchohbmmfemaazDc1
namespace Go.Proofs.Ytpdchohbmmfemaa.X
open Go Go.RowKit Go.Proofs.YtpdchohbmmfemaaW.Rx
set_option linter.unusedVariables false
set_option linter.unusedSimpArgs false
set_option maxRecDepth 10000
abbrev Fr := Int × Int × Int × Int × Int × Bool × (List Int) × (List (Int × Int))
abbrev FrR := Int × Int × Int × Int × Int × Bool × (Option Addr × Nat × Nat) × (Option Addr × Nat × Nat)
@[reducible] def RF : FRow FrR := ⟨8, by decide, fun x => [Value.int IntKind.i64 x.1, Value.int IntKind.i64 x.2.1, Value.int IntKind.i64 x.2.2.1, Value.int IntKind.i64 x.2.2.2.1, Value.int IntKind.i64 x.2.2.2.2.1, Value.bool x.2.2.2.2.2.1, Lf.V .sl x.2.2.2.2.2.2.1, Lf.V .sl x.2.2.2.2.2.2.2], fun _ => rfl, fun x u h => by
 simp only [List.mem_cons, List.not_mem_nil, or_false] at h
 rcases h with rfl | rfl | rfl | rfl | rfl | rfl | rfl | rfl <;> rfl⟩
def Nest (base : Nat) (K : Nat → Prop) (w : World) (x : Fr) (y : FrR) : Prop := ∃ (A6 : Option Addr) (c6 : Nat) (A7 : Option Addr) (c7 : Nat), y = (x.1, x.2.1, x.2.2.1, x.2.2.2.1, x.2.2.2.2.1, x.2.2.2.2.2.1, (A6, x.2.2.2.2.2.2.1.length, c6), (A7, x.2.2.2.2.2.2.2.length, c7)) ∧ OwnF base K w 5 R23 A6 c6 x.2.2.2.2.2.2.1 ∧ OwnF base K w 42 R34 A7 c7 x.2.2.2.2.2.2.2
def Nests (base : Nat) (K : Nat → Prop) (w : World) : List Fr → List FrR → Prop
 | [], [] => True
 | x :: xs, y :: ys => Nest base K w x y ∧ Nests base K w xs ys
 | _, _ => False
def Sep2 (y z : FrR) : Prop := Dj y.2.2.2.2.2.2.1.1 z.2.2.2.2.2.2.1.1 ∧ Dj y.2.2.2.2.2.2.1.1 z.2.2.2.2.2.2.2.1 ∧ Dj y.2.2.2.2.2.2.2.1 z.2.2.2.2.2.2.1.1 ∧ Dj y.2.2.2.2.2.2.2.1 z.2.2.2.2.2.2.2.1
def Sep (ys : List FrR) : Prop := (∀ y ∈ ys, Dj y.2.2.2.2.2.2.1.1 y.2.2.2.2.2.2.2.1) ∧ ys.Pairwise Sep2
section
variable {base : Nat} {K K' : Nat → Prop} {w w' : World}
theorem Nests.lt : ∀ {xs : List Fr} {ys : List FrR}, Nests base K w xs ys → ∀ y ∈ ys, ∀ b, blk (y.2.2.2.2.2.2.1.1, 0, 0) b ∨ blk (y.2.2.2.2.2.2.2.1, 0, 0) b → b < w.heap.size
 | [], [], _, y, hy, b, hb => by cases hy
 | x :: xs, z :: ys, ⟨⟨A6, c6, A7, c7, e, h1, h2⟩, h⟩, y, hy, b, hb => by
  rcases List.mem_cons.1 hy with rfl | hy
  ·rw [e] at hb
   rcases hb with hb | hb
   ·exact OwnF.lt h1 b hb
   ·exact OwnF.lt h2 b hb
  ·exact Nests.lt h y hy b hb
 | [], _ :: _, h, _, _, _, _ => h.elim
 | _ :: _, [], h, _, _, _, _ => h.elim
theorem Sep.snoc {ys : List FrR} {y : FrR} (h : Sep ys) {n : Nat} (ho : ∀ z ∈ ys, ∀ b, blk (z.2.2.2.2.2.2.1.1, 0, 0) b ∨ blk (z.2.2.2.2.2.2.2.1, 0, 0) b → b < n) (hn : ∀ b, blk (y.2.2.2.2.2.2.1.1, 0, 0) b ∨ blk (y.2.2.2.2.2.2.2.1, 0, 0) b → n ≤ b) (hy : Dj y.2.2.2.2.2.2.1.1 y.2.2.2.2.2.2.2.1) : Sep (ys ++ [y]) := by
 refine ⟨fun z hz => ?_, List.pairwise_append.2 ⟨h.2, List.pairwise_singleton _ _, fun z hz z' hz' => ?_⟩⟩
 ·rcases List.mem_append.1 hz with hz | hz
  ·exact h.1 z hz
  ·rw [List.mem_singleton.1 hz]; exact hy
 ·rw [List.mem_singleton.1 hz']
  refine ⟨fun b h1 h2 => ?_, fun b h1 h2 => ?_, fun b h1 h2 => ?_, fun b h1 h2 => ?_⟩
  ·have := ho z hz b (Or.inl h1); have := hn b (Or.inl h2); omega
  ·have := ho z hz b (Or.inl h1); have := hn b (Or.inr h2); omega
  ·have := ho z hz b (Or.inr h1); have := hn b (Or.inl h2); omega
  ·have := ho z hz b (Or.inr h1); have := hn b (Or.inr h2); omega
theorem Nest.step {x : Fr} {y : FrR} (h : Nest base K w x y) (g : Fine K w K' w') : Nest base K' w' x y := by
 obtain ⟨A6, c6, A7, c7, e, h1, h2⟩ := h
 exact ⟨A6, c6, A7, c7, e, h1.later g, h2.later g⟩
theorem Nests.step : ∀ {xs : List Fr} {ys : List FrR}, Nests base K w xs ys → Fine K w K' w' → Nests base K' w' xs ys
 | [], [], _, _ => trivial
 | x :: xs, y :: ys, h, g => ⟨h.1.step g, Nests.step h.2 g⟩
 | [], _ :: _, h, _ => h.elim
 | _ :: _, [], h, _ => h.elim
theorem Nest.vis {x : Fr} {y : FrR} (h : Nest base K w x y) (hk : ∀ b, K' b → K b) : Nest base K' w x y := by
 obtain ⟨A6, c6, A7, c7, e, h1, h2⟩ := h
 exact ⟨A6, c6, A7, c7, e, ⟨h1.1, fun ad ha => ⟨(h1.2 ad ha).1, fun h => (h1.2 ad ha).2 (hk _ h)⟩⟩, ⟨h2.1, fun ad ha => ⟨(h2.2 ad ha).1, fun h => (h2.2 ad ha).2 (hk _ h)⟩⟩⟩
theorem Nests.vis : ∀ {xs : List Fr} {ys : List FrR}, Nests base K w xs ys → (∀ b, K' b → K b) → Nests base K' w xs ys
 | [], [], _, _ => trivial
 | x :: xs, y :: ys, h, g => ⟨h.1.vis g, Nests.vis h.2 g⟩
 | [], _ :: _, h, _ => h.elim
 | _ :: _, [], h, _ => h.elim
theorem Nests.down {base' : Nat} (hb : base' ≤ base) : ∀ {xs : List Fr} {ys : List FrR}, Nests base K w xs ys → Nests base' K w xs ys
 | [], [], _ => trivial
 | x :: xs, y :: ys, ⟨⟨A6, c6, A7, c7, e, h1, h2⟩, h⟩ => ⟨⟨A6, c6, A7, c7, e, h1.down hb, h2.down hb⟩, Nests.down hb h⟩
 | [], _ :: _, h => h.elim
 | _ :: _, [], h => h.elim
theorem Nests.ret : ∀ {xs : List Fr} {ys : List FrR}, Nests base K w xs ys → Nests base (fun b => b < base) w xs ys
 | [], [], _ => trivial
 | x :: xs, y :: ys, ⟨⟨A6, c6, A7, c7, e, h1, h2⟩, h⟩ => ⟨⟨A6, c6, A7, c7, e, h1.ret, h2.ret⟩, Nests.ret h⟩
 | [], _ :: _, h => h.elim
 | _ :: _, [], h => h.elim
theorem Nests.snoc {x : Fr} {y : FrR} : ∀ {xs : List Fr} {ys : List FrR}, Nests base K w xs ys → Nest base K w x y → Nests base K w (xs ++ [x]) (ys ++ [y])
 | [], [], _, h => ⟨h, trivial⟩
 | a :: xs, b :: ys, h, g => ⟨h.1, Nests.snoc h.2 g⟩
 | [], _ :: _, h, _ => h.elim
 | _ :: _, [], h, _ => h.elim
theorem Nests.length : ∀ {xs : List Fr} {ys : List FrR}, Nests base K w xs ys → ys.length = xs.length
 | [], [], _ => rfl
 | a :: xs, b :: ys, h => by simp [Nests.length h.2]
 | [], _ :: _, h => h.elim
 | _ :: _, [], h => h.elim
theorem Nests.reps {L : Nat → Prop} (hL : ∀ b, L b → K b) : ∀ {xs : List Fr} {ys : List FrR}, Nests base K w xs ys → Reps R22 L w xs (ys.flatMap RF.enc)
 | [], [], _ => rfl
 | x :: xs, y :: ys, ⟨⟨A6, c6, A7, c7, e, h1, h2⟩, h⟩ => by
  refine ⟨RF.enc y, ys.flatMap RF.enc, by simp [List.flatMap_cons], ⟨A6, _, c6, A7, _, c7, by rw [e], rfl, h1.sl.mono hL, rfl, h2.sl.mono hL⟩, Nests.reps hL h⟩
 | [], _ :: _, h => h.elim
 | _ :: _, [], h => h.elim
theorem Nests.sl {L : Nat → Prop} {A : Option Addr} {c : Nat} {xs : List Fr} {ys : List FrR} (h : Nests base K w xs ys) (ho : OwnF base L w 36 RF A c ys) (hL : ∀ b, L b → K b) : SlR R22 L w A c xs := by
 obtain ⟨⟨cs, h1, h2⟩, h3, h4⟩ := ho.sl
 rw [reps_flat] at h2
 subst h2
 rw [h.length] at h3 h4
 exact ⟨⟨_, h1, h.reps hL⟩, h3, h4⟩
theorem fine_up {L L' B E : Nat → Prop} (g : Fine (fun b => L b ∨ B b) w L' w') (hid : ∀ q, L' q → L q ∨ w.heap.size ≤ q) (hL : ∀ b, L b → K b) (hB : ∀ b, B b → K b) (hE : ∀ b, E b → K b ∨ w.heap.size ≤ b) : Fine K w (fun b => K b ∨ L' b ∨ E b) w' :=
 ⟨g.os, g.tape, g.output, g.size, fun b hb hk => g.keep b hb (fun h => hk (h.elim (hL b) (hB b))), fun b h => by
  rcases h with h | h | h
  ·exact Or.inl h
  ·exact (hid b h).imp (hL b) id
  ·exact hE b h⟩
theorem fine_or {L L' : Nat → Prop} (g : Fine L w L' w') : Fine (fun b => L b ∨ False) w L' w' := by simpa using g
end
def dec.s (k : Nat) : (List Fr × (List Int × Int)) → Option (Sum (List Fr × (List Int × Int)) (Except (Int × Int) (List Fr))) := fun st =>
 bif decide (st.2.2 < (st.2.1.length : Int)) then
  (bif decide ((st.1.length : Int) < 64) then
   (f0_frame.F k st.2).bind fun r => match r with
    | .error z => some (.inr (.error z))
    | .ok r => some (.inl (st.1 ++ [(r.1, r.2.1, r.2.2.1, r.2.2.2.1, r.2.2.2.2.1, r.2.2.2.2.2.1, r.2.2.2.2.2.2.1, r.2.2.2.2.2.2.2.1)], r.2.2.2.2.2.2.2.2))
  else some (.inr (.error (6, st.2.2))))
 else some (.inr (.ok st.1))
structure Dw (w3 : World) (al af : Addr) (a : Option Addr) (l0 : List Int) (A0 : Option Addr) (c0 : Nat) (L : Nat → Prop) (w : World) (xs : List Fr) (p : Int) (A : Option Addr) (c : Nat) (ys : List FrR) (K : Nat → Prop) : Prop where
 hF : Fine (fun b => b = al.block ∨ b = af.block) w3 L w
 hl : OwnO 0 L w 22 RSl (some al) 1 [(A, xs.length, c)]
 hf : OwnO 0 L w 29 R34 (some af) 1 [(0, 0)]
 hr : OwnO 0 L w 52 RW52 a 1 [((A0, l0.length, c0), p)]
 hO : OwnF w3.heap.size L w 36 RF A c ys
 hN : Nests w3.heap.size K w xs ys
 dj : Dj a A
 LK : ∀ b, L b → K b
 Kal : K al.block
 Kaf : K af.block
 Ka : ∀ b, blk (a, 0, 0) b → K b
 KA : ∀ b, blk (A, 0, 0) b → K b
 sep : Sep ys
theorem Dw.step {w3 : World} {al af : Addr} {a : Option Addr} {l0 : List Int} {A0 : Option Addr} {c0 : Nat} {L L' : Nat → Prop} {w w' : World} {xs : List Fr} {p : Int} {A : Option Addr} {c : Nat} {ys : List FrR} {K : Nat → Prop} (h : Dw w3 al af a l0 A0 c0 L w xs p A c ys K) (g : Fine L w L' w') : ∃ K', Dw w3 al af a l0 A0 c0 L' w' xs p A c ys K' ∧ ∀ b, K' b → K b ∨ L' b :=
 ⟨fun b => K b ∨ L' b ∨ False, ⟨h.hF.trans g, h.hl.later g, h.hf.later g, h.hr.later g, h.hO.later g, h.hN.step (fine_up (B := fun _ => False) (E := fun _ => False) (fine_or g) g.hid h.LK (fun _ h => h.elim) (fun _ h => h.elim)), h.dj, fun b hb => Or.inr (Or.inl hb), Or.inl h.Kal, Or.inl h.Kaf, fun b hb => Or.inl (h.Ka b hb), fun b hb => Or.inl (h.KA b hb), h.sep⟩, fun b hb => hb.imp id (fun h => h.elim id False.elim)⟩
end Go.Proofs.Ytpdchohbmmfemaa.X
