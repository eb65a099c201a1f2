import Derived.Test.YtcbpgbfbffnogaaGreatzEy6
namespace Go.Proofs.YtcbpgbfbffnogaaGreatW.Ex
open Go Go.RowKit Go.Proofs.YtcbpgbfbffnogaaGreatW.Rx
set_option linter.unusedVariables false
set_option linter.unusedSimpArgs false
def byPos (ρ : Nat → Nat) (ex : Out) (k : Nat) : Nat := match ex[k]? with
 | some x => ρ x.1
 | none => 0
theorem byPos_at {ρ : Nat → Nat} {ex : Out} {j : Nat} {x : Nat × List AV × TypeId} (h : ex[j]? = some x) : byPos ρ ex j = ρ x.1 := by unfold byPos; rw [h]
theorem pos_ok : ∀ (ex : Out) (q : Nat), (ex.any fun x => Nat.beq x.1 q) = true → ∃ x, ex[posOf ex q]? = some x ∧ x.1 = q
 | [], q, h => by cases h
 | x :: r, q, h => by
  unfold posOf
  cases hc : Nat.beq x.1 q with
  | true => exact ⟨x, rfl, beq_e hc⟩
  | false =>
   simp only [List.any_cons, hc, Bool.false_or] at h
   obtain ⟨y, h1, h2⟩ := pos_ok r q h
   exact ⟨y, h1, h2⟩
theorem byPos_pos {ρ : Nat → Nat} {ex : Out} {q : Nat} (h : (ex.any fun x => Nat.beq x.1 q) = true) : byPos ρ ex (posOf ex q) = ρ q := by
 obtain ⟨x, h1, h2⟩ := pos_ok ex q h
 rw [byPos_at h1, h2]
theorem gs_ren {D : Nat → Bool} {ρ ρc σ : Nat → Nat} (h : ∀ q, D q = true → ρc (σ q) = ρ q) : ∀ l : List AV, AV.wfs D l = true → AV.gs ρc (rens σ l) = AV.gs ρ l := by
 intro l
 refine AV.rec_1 (motive_1 := fun x => x.wf D = true → (ren σ x).g ρc = x.g ρ) (motive_2 := fun l => AV.wfs D l = true → AV.gs ρc (rens σ l) = AV.gs ρ l) ?_ ?_ ?_ ?_ ?_ ?_ ?_ l
 ·intro x _; simp [ren, AV.g]
 ·intro k o hk; simp only [AV.wf] at hk; simp [ren, AV.g, h k hk]
 ·intro cs ih hk; simp only [AV.wf] at hk; simp [ren, AV.g, ih hk]
 ·intro cs ih hk; simp only [AV.wf] at hk; simp [ren, AV.g, ih hk]
 ·intro f a c iha ihc hk; simp only [AV.wf, Bool.and_eq_true] at hk; simp [ren, AV.g, iha hk.1, ihc hk.2]
 ·intro _; simp [rens, AV.gs]
 ·intro x r ihx ihr hk; simp only [AV.wfs, Bool.and_eq_true] at hk; simp [rens, AV.gs, ihx hk.1, ihr hk.2]
theorem ren_stand {ρ ρc σ : Nat → Nat} {D : Nat → Bool} {L : Nat → Prop} {w : World} (hσ : ∀ q, D q = true → ρc (σ q) = ρ q) : ∀ (i : Nat) (ex : Out), (∀ (j : Nat) (x : Nat × List AV × TypeId), ex[j]? = some x → ρc (i + j) = ρ x.1) → ex.all (fun x => AV.wfs D x.2.1) = true → Outs ρ L w ex → Stand ρc w (renOut σ i ex)
 | _, [], _, _, _ => trivial
 | i, (k, c, T) :: r, h, hw, ho => by
  simp only [List.all_cons, Bool.and_eq_true] at hw
  refine ⟨?_, ren_stand hσ (i + 1) r (fun j x hj => by have := h (j + 1) x hj; rwa [show i + 1 + j = i + (j + 1) by omega]) hw.2 ho.2⟩
  rw [gs_ren hσ c hw.1, show ρc i = ρ k from h 0 _ rfl]
  exact ho.1.2
theorem ren_map {ρ ρc σ : Nat → Nat} : ∀ (i : Nat) (ex : Out), (∀ (j : Nat) (x : Nat × List AV × TypeId), ex[j]? = some x → ρc (i + j) = ρ x.1) → (renOut σ i ex).map (fun x => ρc x.1) = ex.map fun x => ρ x.1
 | _, [], _ => rfl
 | i, (k, c, T) :: r, h => by
  simp only [renOut, List.map_cons]
  rw [show ρc i = ρ k from h 0 _ rfl, ren_map (i + 1) r (fun j x hj => by have := h (j + 1) x hj; rwa [show i + 1 + j = i + (j + 1) by omega])]
theorem ren_key {σ : Nat → Nat} : ∀ (i : Nat) (ex : Out) (j : Nat) x, ex[j]? = some x → ∃ c T, (i + j, c, T) ∈ renOut σ i ex
 | i, [], j, x, h => by cases h
 | i, (k, c, T) :: r, 0, x, h => ⟨_, _, List.mem_cons_self⟩
 | i, (k, c, T) :: r, j + 1, x, h => by
  obtain ⟨c', T', h1⟩ := ren_key (i + 1) r j x h
  exact ⟨c', T', List.mem_cons_of_mem _ (by rwa [show i + 1 + j = i + (j + 1) by omega] at h1)⟩
theorem back_key {L : Nat → Prop} {w : World} {ρ' : Nat → Nat} : ∀ (i : Nat) (ex out : Out) (les : List Nat), backOk i ex out les = true → Outs ρ' L w out → ∀ (j : Nat) (x : Nat × List AV × TypeId), ex[j]? = some x → L (ρ' (i + j))
 | _, [], _, _, _, _, j, x, h => by cases h
 | i, (_, _, T) :: r, (k, c, T') :: r', n :: les, h, ho, 0, x, hj => by
  simp only [backOk, Bool.and_eq_true] at h
  rw [Nat.add_zero, ← beq_e h.1.1.1]
  exact ho.1.1
 | i, (_, _, T) :: r, (k, c, T') :: r', n :: les, h, ho, j + 1, x, hj => by
  simp only [backOk, Bool.and_eq_true] at h
  have := back_key (i + 1) r r' les h.2 ho.2 j x hj
  rwa [show i + 1 + j = i + (j + 1) by omega] at this
 | _, _ :: _, [], _, h, _, _, _, _ => by cases h
 | _, _ :: _, _ :: _, [], h, _, _, _, _ => by cases h
section
variable {P : Program} {m m2 : Nm} {h h1 : AH} {L L' : Nat → Prop} {w w2 : World}
def Sc (ρ : Nat → Nat) (ex : Out) (m : Nm) (h : AH) (b : Nat) : Prop := (∃ (j : Nat) (x : Nat × List AV × TypeId), ex[j]? = some x ∧ ρ x.1 = b) ∨ ∃ j, j < h.length ∧ m.r j = b
theorem own_sc {ρ σ : Nat → Nat} {ex : Out} {m : Nm} {h : AH} : ∀ b, own (byPos ρ ex) (renOut σ 0 ex) b → Sc ρ ex m h b := by
 rintro b ⟨y, hy, e⟩
 have hm := ren_map (ρ := ρ) (ρc := byPos ρ ex) (σ := σ) 0 ex (fun j x hj => by rw [Nat.zero_add]; exact byPos_at hj)
 have : b ∈ ex.map fun x => ρ x.1 := by rw [← hm, ← e]; exact List.mem_map_of_mem (f := fun x : Nat × List AV × TypeId => byPos ρ ex x.1) hy
 obtain ⟨x, hx, e2⟩ := List.mem_map.1 this
 obtain ⟨j, hj⟩ := List.getElem?_of_mem hx
 exact Or.inl ⟨j, x, hj, e2⟩
theorem St.vis' (hst : St m h L w) (hv : ∀ i, i < h.length → ¬ L' (m.r i)) : St m h L' w where
 holds := fun i o hi => (hst.holds i o hi).vis (hv i (List.getElem?_eq_some_iff.1 hi).1)
 vis := fun i hi => ⟨(hst.vis i hi).1, hv i hi⟩
 sep := hst.sep
theorem call_mv {ρ : Nat → Nat} {ex : Out} (hst : St m h L w) (hlt : ∀ b, L b → b < w.heap.size) (hout : Outs ρ L w ex) (hst2 : St m2 h1 L' w2) (hfr : Fr (Sc ρ ex m h) w h.length m m2 h1 L' w2) (hown : ∀ (j : Nat) (x : Nat × List AV × TypeId), ex[j]? = some x → L' (ρ x.1)) : Mv m h L w m2 h1 L w2 ∧ Keeps ρ ex L w w2 := by
 have hL : ∀ (j : Nat) (x : Nat × List AV × TypeId), ex[j]? = some x → L (ρ x.1) := fun j x hj => outs_hid hout x (List.mem_of_getElem? hj)
 have src : ∀ i, i < h1.length → (∃ j, j < h.length ∧ m.r j = m2.r i) ∨ w.heap.size ≤ m2.r i := fun i hi => by
  rcases hfr.home i hi with (⟨j, x, hj, e⟩ | hs) | hs
  ·exact absurd (e ▸ hown j x hj) (hst2.vis i hi).2
  ·exact Or.inl hs
  ·exact Or.inr hs
 refine ⟨⟨hst2.vis' (fun i hi hl => ?_), hfr.le, hfr.agree, src, ?_, fun q hq => Or.inl hq⟩, ?_⟩
 ·rcases src i hi with ⟨j, hj, e⟩ | hs
  ·exact (hst.vis j hj).2 (e ▸ hl)
  ·have := hlt _ hl; omega
 ·refine ⟨hfr.fine.os, hfr.fine.tape, hfr.fine.output, hfr.fine.size, fun b hb hn => hfr.fine.keep b hb ?_, fun b hb => Or.inl (Or.inl hb)⟩
  rintro (⟨j, x, hj, e⟩ | hs)
  ·exact hn (Or.inl (e ▸ hL j x hj))
  ·exact hn (Or.inr hs)
 ·refine ⟨hfr.fine.size, ⟨hfr.fine.os, hfr.fine.tape, hfr.fine.output⟩, fun b hb hx => hfr.fine.keep b (hlt b hb) ?_⟩
  rintro (⟨j, x, hj, e⟩ | ⟨j, hj, e⟩)
  ·exact hx x (List.mem_of_getElem? hj) e
  ·exact (hst.vis j hj).2 (e ▸ hb)
theorem leaves_ok {sh : Sh} {les : List Nat} {ex : Out} {ls : List Lf} {o : Outc} {ys xs : List AV} {x : Tup ls} {ρ ρ' : Nat → Nat} (hl : leavesOf sh les ex ls.length o = some ys) (hg : AV.gs id ys = AV.gs id xs) (hx : unTup ls xs = some x) (ho : Outs ρ' L' w2 o.2.1) (hρ : ∀ (j : Nat) (x : Nat × List AV × TypeId), ex[j]? = some x → ρ' j = ρ x.1) :
  o.1.g ρ' = (sh.av (vs ls x)).g ρ ∧ Back ρ w2 ex (segs les ((Tup.V ls x).drop (ls.length - les.sum))) ∧ ∀ (j : Nat) (x : Nat × List AV × TypeId), ex[j]? = some x → L' (ρ x.1) := by
 unfold leavesOf at hl
 split at hl
 ·rename_i zs hz
  obtain ⟨hc, hl⟩ := bif_some hl
  subst hl
  simp only [Bool.and_eq_true] at hc
  obtain ⟨⟨⟨h1, h2⟩, h3⟩, h4⟩ := hc
  have h4 := beq_e h4
  have hV : Tup.V ls x = AV.gs id zs ++ AV.gs id (o.2.1.flatMap fun x => x.2.1) := by
   have e1 := unTup_ok ls xs x hx
   have e2 : AV.gs id xs = Tup.V ls x := by rw [e1]; exact gs_v _
   rw [← e2, ← hg, gs_append]
  have hb := back_ok (ρ := ρ) 0 ex o.2.1 les h3 ho (fun j x hj => by rw [Nat.zero_add]; exact hρ j x hj) h2
  refine ⟨?_, ?_, fun j x hj => ?_⟩
  ·rw [g_congr (D := fun _ => false) (ρ := ρ') (σ := id) (fun k hk => by cases hk) _ h1]
   unfold vs
   rw [hV, sh_g ρ _ hz]
  ·rw [hV, List.drop_append_of_le_length (by rw [gs_len]; omega), List.drop_of_length_le (by rw [gs_len]; omega), List.nil_append]
   exact hb.1
  ·rw [← hρ j x hj]
   have := back_key 0 ex o.2.1 les h3 ho j x hj
   rwa [Nat.zero_add] at this
 ·cases hl
end
end Go.Proofs.YtcbpgbfbffnogaaGreatW.Ex
