import Derived.Test.YtpdchohbmmfemaazFp10
namespace Go.Proofs.Ytpdchohbmmfemaa.X
open Go Go.RowKit Go.Proofs.YtpdchohbmmfemaaW.Rx Go.Proofs.Ytpdchohbmmfemaa.Plain Go.Proofs.YtpdchohbmmfemaaW.PrintWords
set_option linter.unusedVariables false
set_option linter.unusedSimpArgs false
set_option linter.unusedSectionVars false
theorem dec_good {b : List Int} (hb : Bytes b) (hl : b.length ≤ 1200) : ∀ (q : Nat) (acc : List Fr) (p : Int) (r : List Fr), 0 ≤ p → acc.all mayB = true → Bys acc → acc.length ≤ 64 → decR b q acc p = .ok r → r.all mayB = true ∧ Bys r ∧ r.length ≤ 64 := by
 intro q
 induction q with
 | zero => intro acc p r h0 h1 h2 h3 h; cases h; exact ⟨h1, h2, h3⟩
 | succ q ih =>
  intro acc p r h0 h1 h2 h3 h
  rw [decR] at h
  by_cases hp : p < b.length
  ·rw [if_pos hp] at h
   by_cases ha : acc.length < 64
   ·rw [if_pos ha] at h
    obtain ⟨f, hf, h⟩ := bind_ok h
    have hg := frame_good hb hl h0 hp hf
    exact ih _ _ _ (by have := hg.1; omega) (by rw [List.all_append, h1, List.all_cons, hg.2.2.1]; rfl) (fun x hx => (List.mem_append.1 hx).elim (h2 x) (fun e => by rw [List.mem_singleton.1 e]; exact hg.2.2.2)) (by rw [List.length_append, List.length_singleton]; omega) h
   ·rw [if_neg ha] at h; cases h
  ·rw [if_neg hp] at h
   cases h
   exact ⟨h1, h2, h3⟩
theorem decP_good {b : List Int} (hb : Bytes b) (k : Nat) : ∃ l c a, decP b k = (l, c, a) ∧ l.all mayB = true ∧ Bys l ∧ l.length ≤ 64 ∧ ((c = 0 ∧ a = 0) ∨ l = []) := by
 unfold decP
 have he : ([] : List Fr).all mayB = true ∧ Bys [] ∧ ([] : List Fr).length ≤ 64 := ⟨rfl, fun x hx => (by cases hx), by simp⟩
 by_cases h : 1200 < b.length
 ·rw [if_pos h]; exact ⟨[], 6, 0, rfl, he.1, he.2.1, he.2.2, Or.inr rfl⟩
 rw [if_neg h]
 cases hd : decR b k [] 0 with
 | error z => exact ⟨[], z.1, z.2, rfl, he.1, he.2.1, he.2.2, Or.inr rfl⟩
 | ok l =>
  have := dec_good hb (by omega) k [] 0 l (by omega) he.1 he.2.1 he.2.2 hd
  exact ⟨l, 0, 0, rfl, this.1, this.2.1, this.2.2, Or.inl ⟨rfl, rfl⟩⟩
theorem again_F {k : Nat} (hk : 1250 ≤ k) (b : List Int) (hb : Bytes b) : law04_FramesAgain.F k b = some true := by
 unfold law04_FramesAgain.F
 rw [Decode_F hk hb]
 obtain ⟨l, c, a, e, hm, hby, h64, hc⟩ := decP_good hb k
 rw [e]
 simp only [Option.bind_some]
 have hf : Fits k l := fits_may hk (by omega) hm
 have hloop : iter (law04_FramesAgain.s1 k l) k 0 = some true := by
  have hend : law04_FramesAgain.s1 k l ((l.length : Nat) : Int) = some (.inr true) := by
   unfold law04_FramesAgain.s1
   rw [decide_eq_false (by omega : ¬ ((l.length : Nat) : Int) < ((l.length : Nat) : Int)), Encode_F k l hf (by omega), alive_F hk]
   unfold encP
   rw [if_neg (by omega), if_pos hm]
   by_cases h2 : 1200 < (l.flatMap oneP).length
   ·rw [if_pos h2]; rfl
   ·rw [if_neg h2]
    simp only [Option.bind_some]
    rw [Decode_F hk (ones_bytes l hm hby), dec_enc hk l hm h64 (by omega)]
    simp only [Option.bind_some]
    rw [rsame_F k l l hf hby hby, decide_eq_true rfl]
    rfl
  rw [all_idx l (by omega) (law04_FramesAgain.s1 k l) mayB true false (fun j x hx => by
   have hj := (List.getElem?_eq_some_iff.1 hx).1
   have mx := List.mem_of_getElem? hx
   have he := hf.el x mx
   unfold law04_FramesAgain.s1
   rw [decide_eq_true (by omega : (j : Int) < ((l.length : Nat) : Int)), getI_some hx]
   simp only [cond_true, Option.bind_some]
   rw [rmay_F k x (hby x mx) he.1 he.2.2.2 he.2.1]
   simp only [Option.bind_some]
   cases mayB x <;> rfl) hend k (by omega), hm]
  rfl
 rw [hloop, alive_F hk]
 by_cases hc0 : (c == 0 && (a == 0 && true)) = true
 ·rw [hc0]; rfl
 ·rw [Bool.not_eq_true] at hc0
  rw [hc0]
  rcases hc with ⟨rfl, rfl⟩ | rfl
  ·cases hc0
  ·rfl
section
variable {b b' : List Int} {m : Nat}
def Loc (b : List Int) (m : Nat) (p : Int) {α : Type} (pl : α → Int) (x x' : Ex α) : Prop :=
 (∀ r, x = .ok r → p ≤ pl r ∧ (pl r ≤ m → pl r < b.length → x' = .ok r)) ∧ (∀ at_, x = .error (5, at_) → p ≤ at_ ∧ (at_ + widthOf (rd b at_) ≤ m → x' = .error (5, at_)))
theorem Loc.bind {p : Int} {α β : Type} {pl : α → Int} {pl2 : β → Int} {x x' : Ex α} {f f' : α → Ex β} (hm : m ≤ b.length) (h : Loc b m p pl x x') (g : ∀ r, x = .ok r → Loc b m (pl r) pl2 (f r) (f' r)) : Loc b m p pl2 (x.bind f) (x'.bind f') := by
 cases hx : x with
 | error z =>
  refine ⟨fun r hr => (by cases hr), fun a ha => ?_⟩
  cases ha
  have := h.2 a hx
  exact ⟨this.1, fun hw => by rw [this.2 hw]; rfl⟩
 | ok r =>
  have h1 := h.1 r hx
  have h2 := g r hx
  refine ⟨fun s hs => ?_, fun a ha => ?_⟩
  ·have hs : f r = .ok s := hs
   have := h2.1 s hs
   refine ⟨by omega, fun hw hw2 => ?_⟩
   rw [h1.2 (by omega) (by omega)]
   exact this.2 hw hw2
  ·have ha : f r = .error (5, a) := ha
   have := h2.2 a ha
   refine ⟨by omega, fun hw => ?_⟩
   have hwd := width_bd (rd b a)
   rw [h1.2 (by omega) (by omega)]
   exact this.2 hw
theorem Loc.pure {p : Int} {α : Type} {pl : α → Int} {r : α} (h : p ≤ pl r) : Loc b m p pl (.ok r) (.ok r) :=
 ⟨fun s hs => (by cases hs; exact ⟨h, fun _ _ => rfl⟩), fun a ha => by cases ha⟩
theorem Loc.no {p : Int} {α : Type} {pl : α → Int} {c z : Int} {x' : Ex α} (h : c ≠ 5) : Loc b m p pl (.error (c, z)) x' :=
 ⟨fun s hs => (by cases hs), fun a ha => by cases ha; exact absurd rfl h⟩
variable (hb : Bytes b) (hb' : Bytes b') (hm : m ≤ b.length) (hm' : m ≤ b'.length) (hs : b.take m = b'.take m)
include hb hb' hm hm' hs
theorem rd_loc {p : Int} (h0 : 0 ≤ p) (h : p < m) : rd b' p = rd b p := by
 unfold rd
 have h1 : (b.take m)[p.toNat]? = b[p.toNat]? := List.getElem?_take_of_lt (by omega)
 have h2 : (b'.take m)[p.toNat]? = b'[p.toNat]? := List.getElem?_take_of_lt (by omega)
 rw [List.getD_eq_getElem?_getD, List.getD_eq_getElem?_getD, ← h1, ← h2, hs]
theorem cut_loc {p n : Nat} (h : p + n ≤ m) : (b'.drop p).take n = (b.drop p).take n := by
 have h1 : ((b.take m).drop p).take n = (b.drop p).take n := by rw [List.drop_take, List.take_take, Nat.min_eq_left (by omega)]
 have h2 : ((b'.take m).drop p).take n = (b'.drop p).take n := by rw [List.drop_take, List.take_take, Nat.min_eq_left (by omega)]
 rw [← h1, ← h2, hs]
theorem get_loc {p : Int} {r : Int × Int} (h : numR b p = .ok r) (hr : r.2 ≤ m) : numR b' p = .ok r := by
 have e := get_ok hb h
 have hw := width_bd (rd b p)
 have hrd : rd b' p = rd b p := rd_loc hb hb' hm hm' hs e.1 (by omega)
 unfold numR Plain.get at h ⊢
 have c1 : ¬ (p < 0 ∨ p > b.length) := by omega
 have c2 : ¬ (p = b.length) := by omega
 have c3 : ¬ ((b.length : Int) - p < widthOf (rd b p)) := by omega
 have d1 : ¬ (p < 0 ∨ p > b'.length) := by omega
 have d2 : ¬ (p = b'.length) := by omega
 have d3 : ¬ ((b'.length : Int) - p < widthOf (rd b p)) := by omega
 rw [if_neg c1, if_neg c2, if_neg c3] at h
 rw [if_neg d1, if_neg d2, hrd, if_neg d3, cut_loc hb hb' hm hm' hs (by omega)]
 exact h
theorem num_loc {p : Int} : Loc b m p (fun r : Int × Int => r.2) (numR b p) (numR b' p) := by
 refine ⟨fun r hr => ⟨by have := get_ok hb hr; simp only; omega, fun h1 _ => get_loc hb hb' hm hm' hs hr h1⟩, fun a ha => ?_⟩
 unfold numR Plain.get at ha
 exfalso
 by_cases c1 : p < 0 ∨ p > b.length
 ·rw [if_pos c1] at ha; simp at ha
 rw [if_neg c1] at ha
 by_cases c2 : p = b.length
 ·rw [if_pos c2] at ha; simp at ha
 rw [if_neg c2] at ha
 by_cases c3 : (b.length : Int) - p < widthOf (rd b p)
 ·rw [if_pos c3] at ha; simp at ha
 rw [if_neg c3] at ha; simp at ha
theorem below_loc {p most e : Int} : Loc b m p (fun r : Int × Int => r.2) (belowR b p most e) (belowR b' p most e) := by
 have hn := num_loc hb hb' hm hm' hs (p := p)
 unfold belowR
 cases hx : numR b p with
 | error z =>
  refine ⟨fun r hr => (by cases hr), fun a ha => ?_⟩
  cases ha
  have := hn.2 a hx
  exact ⟨this.1, fun hw => by rw [this.2 hw]; rfl⟩
 | ok r =>
  have hr := hn.1 r hx
  have er := get_ok hb hx
  refine ⟨fun s hs' => ?_, fun a ha => ?_⟩
  ·simp only [Except.bind] at hs'
   by_cases hc : r.1 ≤ most
   ·rw [if_pos hc] at hs'
    cases hs'
    refine ⟨hr.1, fun h1 h2 => ?_⟩
    rw [hr.2 h1 h2]
    simp only [Except.bind]
    rw [if_pos hc]
   ·rw [if_neg hc] at hs'; cases hs'
  ·simp only [Except.bind] at ha
   by_cases hc : r.1 ≤ most
   ·rw [if_pos hc] at ha; cases ha
   ·rw [if_neg hc] at ha
    cases ha
    refine ⟨Int.le_refl _, fun hw => ?_⟩
    rw [get_loc hb hb' hm hm' hs hx (by omega)]
    simp only [Except.bind]
    rw [if_neg hc]
theorem take_loc {p n : Int} (h0 : 0 ≤ p) (hn : 0 ≤ n) : Loc b m p (fun r : List Int × Int => r.2) (takeR b p n) (takeR b' p n) := by
 unfold takeR
 by_cases hc : n ≤ (b.length : Int) - p
 ·rw [if_pos hc]
  refine ⟨fun r hr => ?_, fun a ha => by cases ha⟩
  cases hr
  refine ⟨by simp only; omega, fun h1 h2 => ?_⟩
  simp only at h1
  rw [if_pos (by omega), cut_loc hb hb' hm hm' hs (by omega)]
 ·rw [if_neg hc]; exact Loc.no (by decide)
theorem ackL_loc (c : Nat) : ∀ (low p : Int) (acc : List (Int × Int)), Loc b m p (fun r : List (Int × Int) × Int => r.2) (ackL b c low p acc) (ackL b' c low p acc) := by
 induction c with
 | zero => intro low p acc; exact Loc.pure (Int.le_refl _)
 | succ c ih =>
  intro low p acc
  exact Loc.bind hm (below_loc hb hb' hm hm' hs) fun g _ => Loc.bind hm (below_loc hb hb' hm hm' hs) fun n _ => ih _ _ _
theorem ack_loc {p : Int} : Loc b m p (fun r : Fr × Int => r.2) (ackR b p) (ackR b' p) :=
 Loc.bind hm (num_loc hb hb' hm hm' hs) fun t _ => Loc.bind hm (num_loc hb hb' hm hm' hs) fun n _ => Loc.bind hm (below_loc hb hb' hm hm' hs) fun q _ => Loc.bind hm (below_loc hb hb' hm hm' hs) fun f _ => Loc.bind hm (ackL_loc hb hb' hm hm' hs _ _ _ _) fun r _ => Loc.pure (Int.le_refl _)
theorem stream_loc {p kind p0 : Int} (h0 : 0 ≤ p) : Loc b m p (fun r : Fr × Int => r.2) (streamR b kind p0 p) (streamR b' kind p0 p) := by
 unfold streamR
 refine Loc.bind hm (num_loc hb hb' hm hm' hs) fun s es => ?_
 have es := get_ok hb es
 have ho : Loc b m s.2 (fun r : Int × Int => r.2) (if kind / 4 % 2 = 1 then numR b s.2 else .ok (0, s.2)) (if kind / 4 % 2 = 1 then numR b' s.2 else .ok (0, s.2)) := by
  by_cases hc : kind / 4 % 2 = 1
  ·rw [if_pos hc, if_pos hc]; exact num_loc hb hb' hm hm' hs
  ·rw [if_neg hc, if_neg hc]; exact Loc.pure (Int.le_refl _)
 refine Loc.bind hm ho fun o eo => ?_
 have eo2 := (ho.1 o eo).1
 simp only at eo2
 by_cases hc : kind / 2 % 2 = 1
 ·rw [if_pos hc, if_pos hc]
  refine Loc.bind hm (num_loc hb hb' hm hm' hs) fun n en => ?_
  have en := get_ok hb en
  by_cases h7 : n.1 ≤ 4611686018427387903 - o.1
  ·rw [if_pos h7, if_pos h7]
   exact Loc.bind hm (take_loc hb hb' hm hm' hs (by omega) (by omega)) fun d _ => Loc.pure (Int.le_refl _)
  ·rw [if_neg h7]; exact Loc.no (by decide)
 ·rw [if_neg hc, if_neg hc]
  refine ⟨fun r hr => ?_, fun a ha => ?_⟩
  ·obtain ⟨n, hn, hr⟩ := bind_ok hr
   cases hn
   by_cases h7 : (b.length : Int) - o.2 ≤ 4611686018427387903 - o.1
   ·rw [if_pos h7] at hr
    obtain ⟨d, hd, hr⟩ := bind_ok hr
    cases hr
    unfold takeR at hd
    rw [if_pos (by simp only; omega)] at hd
    cases hd
    simp only at eo2 ⊢
    have hol : o.2 ≤ b.length := by
     by_cases hc4 : kind / 4 % 2 = 1
     ·rw [if_pos hc4] at eo
      exact (get_ok hb eo).2.2.2.2.2.1
     ·rw [if_neg hc4] at eo
      cases eo
      exact es.2.2.2.2.2.1
    exact ⟨by omega, fun _ h => absurd h (by omega)⟩
   ·rw [if_neg h7] at hr; cases hr
  ·simp only [Except.bind] at ha
   by_cases h7 : (b.length : Int) - o.2 ≤ 4611686018427387903 - o.1
   ·rw [if_pos h7] at ha
    unfold takeR at ha
    rw [if_pos (Int.le_refl _)] at ha
    cases ha
   ·rw [if_neg h7] at ha; cases ha
theorem frame_loc {p : Int} (h0 : 0 ≤ p) (hp : p < m) : Loc b m p (fun r : Fr × Int => r.2) (frameR b p) (frameR b' p) := by
 have w1 : ∀ {x x' : Ex (Fr × Int)}, Loc b m (p + 1) (fun r : Fr × Int => r.2) x x' → Loc b m p (fun r : Fr × Int => r.2) x x' := fun h =>
  ⟨fun r hr => ⟨by have := (h.1 r hr).1; omega, (h.1 r hr).2⟩, fun a ha => ⟨by have := (h.2 a ha).1; omega, (h.2 a ha).2⟩⟩
 unfold frameR
 rw [rd_loc hb hb' hm hm' hs h0 hp]
 simp only
 have hun : Loc b m p (fun r : Fr × Int => r.2) (.error (5, p)) (.error (5, p)) := ⟨fun r hr => (by cases hr), fun a ha => by cases ha; exact ⟨Int.le_refl _, fun _ => rfl⟩⟩
 generalize rd b p = c
 by_cases c0 : c = 0 ∨ c = 1 ∨ c = 30
 ·rw [if_pos c0, if_pos c0]; exact Loc.pure (by simp only; omega)
 rw [if_neg c0, if_neg c0]
 by_cases c2 : c = 2
 ·rw [if_pos c2, if_pos c2]; exact w1 (ack_loc hb hb' hm hm' hs)
 rw [if_neg c2, if_neg c2]
 by_cases c4 : c = 4
 ·rw [if_pos c4, if_pos c4]
  exact w1 (Loc.bind hm (num_loc hb hb' hm hm' hs) fun s _ => Loc.bind hm (num_loc hb hb' hm hm' hs) fun t _ => Loc.bind hm (num_loc hb hb' hm hm' hs) fun o _ => Loc.pure (Int.le_refl _))
 rw [if_neg c4, if_neg c4]
 by_cases c5 : c = 5
 ·rw [if_pos c5, if_pos c5]
  exact w1 (Loc.bind hm (num_loc hb hb' hm hm' hs) fun s _ => Loc.bind hm (num_loc hb hb' hm hm' hs) fun t _ => Loc.pure (Int.le_refl _))
 rw [if_neg c5, if_neg c5]
 by_cases c17 : c = 17
 ·rw [if_pos c17, if_pos c17]
  exact w1 (Loc.bind hm (num_loc hb hb' hm hm' hs) fun s _ => Loc.bind hm (num_loc hb hb' hm hm' hs) fun t _ => Loc.pure (Int.le_refl _))
 rw [if_neg c17, if_neg c17]
 by_cases c16 : c = 16 ∨ c = 18
 ·rw [if_pos c16, if_pos c16]
  exact w1 (Loc.bind hm (num_loc hb hb' hm hm' hs) fun s _ => Loc.pure (Int.le_refl _))
 rw [if_neg c16, if_neg c16]
 by_cases c28 : c = 28
 ·rw [if_pos c28, if_pos c28]
  exact w1 (Loc.bind hm (num_loc hb hb' hm hm' hs) fun s _ => Loc.bind hm (num_loc hb hb' hm hm' hs) fun t et => Loc.bind hm (take_loc hb hb' hm hm' hs (by have := get_ok hb et; omega) (by have := get_ok hb et; omega)) fun d _ => Loc.pure (Int.le_refl _))
 rw [if_neg c28, if_neg c28]
 by_cases c8 : c / 8 = 1
 ·rw [if_pos c8, if_pos c8]; exact w1 (stream_loc hb hb' hm hm' hs (by omega))
 ·rw [if_neg c8, if_neg c8]; exact hun
theorem dec_loc (hl : b.length ≤ 1200) : ∀ (q : Nat) (acc : List Fr) (p a : Int), 0 ≤ p → decR b q acc p = .error (5, a) → a + widthOf (rd b a) ≤ m → a < m ∧ p ≤ a ∧ decR b' q acc p = .error (5, a) := by
 intro q
 induction q with
 | zero => intro acc p a _ h _; cases h
 | succ q ih =>
  intro acc p a h0 h hw
  have hwd := width_bd (rd b a)
  rw [decR] at h
  by_cases hp : p < b.length
  ·rw [if_pos hp] at h
   by_cases ha : acc.length < 64
   ·rw [if_pos ha] at h
    cases hf : frameR b p with
    | error z =>
     rw [hf] at h
     cases h
     by_cases hpm : p < m
     ·have := (frame_loc hb hb' hm hm' hs h0 hpm).2 a hf
      refine ⟨by omega, this.1, ?_⟩
      rw [decR, if_pos (by omega), if_pos ha, this.2 hw]
      rfl
     ·exfalso
      have := (frame_loc (b := b) (b' := b) (m := b.length) hb hb (Nat.le_refl _) (Nat.le_refl _) rfl h0 (by omega)).2 a hf
      omega
    | ok r =>
     rw [hf] at h
     have h : decR b q (acc ++ [r.1]) r.2 = .error (5, a) := h
     have hg := frame_good hb hl h0 hp hf
     have hi := ih _ _ _ (by have := hg.1; omega) h hw
     have hpr := hg.1
     have := ((frame_loc hb hb' hm hm' hs h0 (by omega)).1 r hf).2 (by simp only; omega) (by simp only; omega)
     refine ⟨hi.1, by omega, ?_⟩
     rw [decR, if_pos (by omega), if_pos ha, this]
     exact hi.2.2
   ·rw [if_neg ha] at h; cases h
  ·rw [if_neg hp] at h; cases h
end
theorem first_F {k : Nat} (hk : 1250 ≤ k) (b l : List Int) (hb : Bytes b) (hlb : Bytes l) (hbl : b.length < 4611686018427387904) (hll : l.length < 4611686018427387904) : law04_FramesFirst.F k b l = some true := by
 unfold law04_FramesFirst.F
 rw [Decode_F hk hb, alive_F hk]
 simp only [Option.bind_some, bif_no, cond_true]
 obtain ⟨fs, c, a, e⟩ : ∃ fs c a, decP b k = (fs, c, a) := ⟨_, _, _, rfl⟩
 rw [e]
 simp only
 by_cases h5 : c = 5
 ·subst h5
  rw [show ((5 : Int) != 5) = false from rfl, cond_false]
  by_cases h0 : a < 0
  ·rw [decide_eq_true h0]; rfl
  rw [decide_eq_false h0, cond_false]
  by_cases h1 : ((b.length : Nat) : Int) ≤ a
  ·rw [decide_eq_true h1]; rfl
  rw [decide_eq_false h1, cond_false, getI_rd b a (by omega) (by omega)]
  have hc := rd_byte hb a (by omega) (by omega)
  have hwd := width_bd (rd b a)
  simp only [Option.bind_some, fdiv64, shl1 hc.1 hc.2]
  rw [decide_eq_true (by omega : 0 ≤ rd b a / 64), cond_true, wrap_in (a + widthOf (rd b a)) (by omega) (by omega)]
  by_cases h2 : ((b.length : Nat) : Int) < a + widthOf (rd b a)
  ·rw [decide_eq_true h2]; rfl
  rw [decide_eq_false h2, cond_false, wrap_in (a + widthOf (rd b a) + ((l.length : Nat) : Int)) (by omega) (by omega)]
  by_cases h3 : 1200 < a + widthOf (rd b a) + ((l.length : Nat) : Int)
  ·rw [decide_eq_true h3]; rfl
  rw [decide_eq_false h3, cond_false, decide_eq_true (by omega), cond_true, decide_eq_true (by simp only [List.length_nil, List.length_take, List.length_drop]; omega), cond_true, decide_eq_true (by simp only [List.nil_append, List.length_take, List.length_drop]; omega), cond_true]
  obtain ⟨m, hm⟩ : ∃ m : Nat, (m : Int) = a + widthOf (rd b a) := ⟨(a + widthOf (rd b a)).toNat, by omega⟩
  have eb : (([] : List Int) ++ ((b.drop (Int.toNat 0)).take (Int.toNat (a + widthOf (rd b a)) - Int.toNat 0))) ++ l = b.take m ++ l := by
   rw [← hm, Int.toNat_natCast]; rfl
  rw [eb]
  have hb' : Bytes (b.take m ++ l) := fun x hx => (List.mem_append.1 hx).elim (fun h => hb x (List.mem_of_mem_take h)) (hlb x)
  have hl' : (b.take m ++ l).length = m + l.length := by rw [List.length_append, List.length_take]; omega
  rw [Decode_F hk hb']
  unfold decP at e ⊢
  by_cases h12 : 1200 < b.length
  ·rw [if_pos h12] at e; cases e
  rw [if_neg h12] at e
  cases hd : decR b k [] 0 with
  | ok fs => rw [hd] at e; cases e
  | error z =>
   rw [hd] at e
   obtain ⟨z1, z2⟩ := z
   have e1 : (([] : List Fr), z1, z2) = (fs, 5, a) := e
   simp only [Prod.mk.injEq] at e1
   obtain ⟨rfl, rfl, rfl⟩ := e1
   have := dec_loc (b' := b.take m ++ l) (m := m) hb hb' (by omega) (by rw [hl']; omega) (by rw [List.take_append_of_le_length (by rw [List.length_take]; omega), List.take_take, Nat.min_self]) (by omega) k [] 0 z2 (by omega) hd (by omega)
   rw [if_neg (by rw [hl']; omega), this.2.2]
   simp only [Option.bind_some, decO, beq_self_eq_true, Bool.and_true, cond_true]
 ·have : (c != 5) = true := by rw [bne_iff_ne]; exact h5
  rw [this]; rfl
end Go.Proofs.Ytpdchohbmmfemaa.X
