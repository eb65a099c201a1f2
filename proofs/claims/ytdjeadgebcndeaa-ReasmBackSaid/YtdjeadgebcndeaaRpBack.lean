/- Reasm: what is read are the bytes as they were at their offsets, in plain words. -/
import Derived.Test.YtdjeadgebcndeaaRp6
import Derived.Test.YtdjeadgebcndeaaRlBack
namespace Go.Proofs.Ytdjeadgebcndeaa.X
open Go Go.Proofs.YtdjeadgebcndeaaW.Rx
set_option linter.unusedVariables false
set_option linter.unusedSimpArgs false
/-- A text's byte at an offset. -/
def atT (T : List Int) (o : Int) : Int := T.getD o.toNat 0
structure Came (T : List Int) (q : Stm) (got : List Int) : Prop where
  good : Good 4096 q
  nb : q.2.2.2.2.2.2 = false
  en : q.2.2.2.2.2.1 = true → q.2.2.2.2.1 = (T.length : Int)
  up : ∀ o, Mem o q.2.2.2.1 → o < (T.length : Int)
  pos : q.2.1 = (got.length : Int)
  le : got.length ≤ T.length
  got : T.take got.length = got
  row : Holds (atT T) q.2.1 q.2.2.1 (fun o => Mem o q.2.2.2.1)
theorem Came.sp {T : List Int} {q : Stm} {got : List Int} (h : Came T q got) : ∀ x ∈ q.2.2.2.1, x.2 < (T.length : Int) := fun x hx => h.up x.2 ⟨x, hx, (h.good.rt.lo x hx).2, Int.le_refl _⟩
theorem sub_at {T : List Int} {u v : Nat} (i : Nat) (x : Int) (h : ((T.drop u).take (v - u))[i]? = some x) : x = atT T ((u : Int) + (i : Nat)) := by
  rw [List.getElem?_take] at h
  split at h
  · rw [List.getElem?_drop] at h
    unfold atT
    rw [show ((u : Int) + (i : Nat)).toNat = u + i by omega, List.getD_eq_getElem?_getD, h]; rfl
  · cases h
theorem came_data {T : List Int} {q : Stm} {got : List Int} (k : Nat) (hk : 5000 < k) (hT : T.length ≤ 4096) (h : Came T q got) (u v : Nat) (huv : u ≤ v) (hv : v ≤ T.length) (fin : Bool) (hf : fin = true ↔ v = T.length) :
    ∃ q', reasm_Stream_Data.F k q (u : Int) ((T.drop u).take (v - u)) fin = some (0, q') ∧ DataOK 4096 q (u : Int) ((T.drop u).take (v - u)) fin q' ∧ Came T q' got := by
  have hl : ((T.drop u).take (v - u)).length = v - u := by rw [List.length_take, List.length_drop]; omega
  have ha0 := h.good.a0
  have hpos := h.pos
  have hle := h.le
  obtain ⟨e, q', hD, hc, he⟩ := data_F k h.good hk (n := (u : Int)) (b := (T.drop u).take (v - u)) (fin := fin) (by omega)
  have e0 := he (by omega) (by omega) h.nb (by omega) (fun hkn => by
    have := h.en hkn
    exact ⟨by omega, fun hh => by have := hf.1 hh; omega⟩) (fun hh => by
    have := hf.1 hh
    exact ⟨by omega, fun x hx => by have := h.sp x hx; omega⟩)
  subst e0
  rcases hc with ⟨hc, _⟩ | ⟨_, hc⟩
  · exact absurd rfl hc
  refine ⟨q', hD, hc, hc.good, hc.nb', fun hkn => ?_, fun o ho => ?_, by rw [hc.same, h.pos], h.le, h.got, ?_⟩
  · rw [hc.en]
    cases fin with
    | true => have := hf.1 rfl; simp only [if_true]; omega
    | false =>
      rw [hc.known] at hkn
      have := h.en (by simpa using hkn)
      simpa using this
  · rcases (hc.mem o).1 ho with ho | ho
    · exact h.up o ho
    · omega
  · rw [hc.same]
    exact hc.txt _ h.row (fun i x hx => sub_at i x hx)
theorem came_ready {T : List Int} {q : Stm} {got : List Int} (h : Came T q got) : 0 ≤ readyOf q.2.1 q.2.2.2.1 ∧ q.2.1 + readyOf q.2.1 q.2.2.2.1 ≤ (T.length : Int) := by
  have hr := ready_le h.good
  have hpos := h.pos
  have hle := h.le
  refine ⟨hr.1, ?_⟩
  cases hc : q.2.2.2.1 with
  | nil => simp only [readyOf]; omega
  | cons x r =>
    have := h.sp x (by rw [hc]; exact List.mem_cons_self ..)
    simp only [readyOf]
    split <;> omega
theorem came_read {T : List Int} {q : Stm} {got : List Int} (k : Nat) (h : Came T q got) (n : Int) :
    ∃ out q', reasm_Stream_Read.F k q n = some (out, q') ∧ ReadOK 4096 q n out q' ∧ Came T q' (got ++ out) := by
  obtain ⟨out, q', hD, hc⟩ := read_F k h.good (n := n)
  have hr := came_ready h
  have hle := hc.le
  have hpos := h.pos
  obtain ⟨hrow, hout⟩ := hc.row _ h.row
  have hlen : got.length + out.length ≤ T.length := by omega
  refine ⟨out, q', hD, hc, hc.good, by rw [hc.en]; exact h.nb, by rw [hc.en]; exact h.en, fun o ho => h.up o ((hc.mem o).1 ho).1, by rw [hc.at', h.pos, List.length_append]; omega, by rw [List.length_append]; exact hlen, ?_, hrow⟩
  refine List.ext_getElem? fun i => ?_
  rw [List.length_append, List.getElem?_take]
  rcases Nat.lt_or_ge i got.length with hi | hi
  · rw [if_pos (by omega), List.getElem?_append_left hi]
    conv => rhs; rw [← h.got]
    rw [List.getElem?_take, if_pos hi]
  · rw [List.getElem?_append_right hi]
    split
    · rename_i hlt
      have hx : out[i - got.length]? = some out[i - got.length] := List.getElem?_eq_getElem (by omega)
      have := hout _ _ hx
      rw [hx, this]
      unfold atT
      rw [show (q.2.1 + ((i - got.length : Nat) : Int)).toNat = i by omega, List.getD_eq_getElem?_getD, List.getElem?_eq_getElem (show i < T.length by omega)]; rfl
    · rw [List.getElem?_eq_none (by omega)]
theorem same_F (k : Nat) {a b : List Int} (h : a = b) : ref01_Same.F k a b = some true := by
  subst h
  unfold ref01_Same.F
  rw [beq_self_eq_true]; rfl
/-- Behind the act: what is read, and whether it is as it was. -/
def backRest (k : Nat) (T : List Int) (m : Nat) (l2 : List Int) (got : List Int) (i : Int) (q : Stm) : Option (Sum (List Int × Int × Stm) Bool) :=
  bif decide (i < ((l2.length : Nat) : Int)) then ((getI l2 i).bind fun r => (reasm_Stream_Read.F k q (IntKind.wrap IntKind.i64 r)).bind fun (s6_0, q6) => bif decide ((got.length + s6_0.length) * 1 ≤ 140737488355328) then (bif decide ((m : Int) < ((((got ++ s6_0)).length : Nat) : Int)) then (some (.inr false)) else (bif decide ((0 : Int) ≤ (0 : Int) ∧ (0 : Int) ≤ (((((got ++ s6_0)).length : Nat) : Int)) ∧ (((((got ++ s6_0)).length : Nat) : Int)) ≤ (T.length : Int)) then ((ref01_Same.F k ((got ++ s6_0)) ((T.drop (Int.toNat 0)).take (Int.toNat (((((got ++ s6_0)).length : Nat) : Int)) - Int.toNat 0))).bind fun v8_0 => bif v8_0 then (some (.inl (((got ++ s6_0), IntKind.wrap IntKind.i64 (i + 1), q6)))) else (some (.inr false))) else none)) else none) else (bif decide ((m : Int) < ((got.length : Nat) : Int)) then (some (.inr false)) else (bif decide ((0 : Int) ≤ (0 : Int) ∧ (0 : Int) ≤ (((got.length : Nat) : Int)) ∧ (((got.length : Nat) : Int)) ≤ (T.length : Int)) then ((ref01_Same.F k got ((T.drop (Int.toNat 0)).take (Int.toNat (((got.length : Nat) : Int)) - Int.toNat 0))).bind fun v5_0 => bif v5_0 then (some (.inl ((got, IntKind.wrap IntKind.i64 (i + 1), q)))) else (some (.inr false))) else none))
theorem rest_F (k : Nat) {T : List Int} (hT : T.length ≤ 4096) (l2 : List Int) {q : Stm} {got : List Int} (h : Came T q got) (j : Nat) (hj : j < 4611686018427387904) : ∃ got' q', backRest k T T.length l2 got (j : Int) q = some (.inl (got', ((j + 1 : Nat) : Int), q')) ∧ Came T q' got' := by
  have hw : IntKind.wrap IntKind.i64 ((j : Int) + 1) = ((j + 1 : Nat) : Int) := by rw [wrap_in _ (by omega) (by omega)]; rfl
  have tail : ∀ (got' : List Int) (q' : Stm), Came T q' got' → (bif decide ((T.length : Int) < ((got'.length : Nat) : Int)) then (some (.inr false)) else (bif decide ((0 : Int) ≤ (0 : Int) ∧ (0 : Int) ≤ (((got'.length : Nat) : Int)) ∧ (((got'.length : Nat) : Int)) ≤ (T.length : Int)) then ((ref01_Same.F k got' ((T.drop (Int.toNat 0)).take (Int.toNat (((got'.length : Nat) : Int)) - Int.toNat 0))).bind fun v5_0 => bif v5_0 then (some (.inl ((got', IntKind.wrap IntKind.i64 ((j : Int) + 1), q')))) else (some (.inr false))) else none) : Option (Sum (List Int × Int × Stm) Bool)) = some (.inl (got', ((j + 1 : Nat) : Int), q')) := fun got' q' h' => by
    have hle := h'.le
    rw [decide_eq_false (by omega), decide_eq_true (⟨Int.le_refl _, by omega, by omega⟩ : (0 : Int) ≤ (0 : Int) ∧ (0 : Int) ≤ (((got'.length : Nat) : Int)) ∧ (((got'.length : Nat) : Int)) ≤ (T.length : Int)), same_F k (show got' = _ by
      have := h'.got
      simpa using this.symm), hw]
    rfl
  unfold backRest
  by_cases h2 : (j : Int) < ((l2.length : Nat) : Int)
  · obtain ⟨a, _, hga, _⟩ := idx_F l2 j (by omega)
    obtain ⟨out, q', hD, hc, hh⟩ := came_read k h (IntKind.wrap IntKind.i64 a)
    have hle := hh.le
    rw [List.length_append] at hle
    rw [decide_eq_true h2, hga]
    simp only [cond_true, Option.bind_some, hD]
    rw [decide_eq_true (show (got.length + out.length) * 1 ≤ 140737488355328 by omega)]
    exact ⟨_, _, tail _ _ hh, hh⟩
  · rw [decide_eq_false h2]
    exact ⟨_, _, tail _ _ h, h⟩
/-- Texts and acts that may be. -/
structure FitB (l0 : List Int) (l1 : List (Int × Int)) : Prop where
  n1 : l1.length ≤ 4611686018427387904
  p : ∀ x ∈ l1, 0 ≤ x.1 ∧ x.1 < 256 ∧ 0 ≤ x.2 ∧ x.2 < 256
theorem new_ok (k : Nat) (W : Int) (h1 : 1 ≤ W) (h2 : W ≤ 4096) : ∃ q : Stm, reasm_New.F k W = some (some q, 0) ∧ Good W q ∧ q = (W, 0, List.replicate W.toNat 0, [], 0, false, false) := by
  rcases new_F k W with e | ⟨q, e, hq, hqe, _⟩
  · unfold reasm_New.F at e
    rw [decide_eq_false (by omega), decide_eq_false (by omega)] at e
    have := (Prod.mk.inj (Option.some.inj e)).1
    cases this
  · exact ⟨q, e, hq, hqe⟩
set_option maxHeartbeats 4000000 in
/-- What is read is what was sent. -/
theorem back_true (l0 : List Int) (l1 : List (Int × Int)) (l2 : List Int) (hl : FitB l0 l1) : law09_ReasmBack.F (l1.length + 6000) l0 l1 l2 = some true := by
  obtain ⟨k, hk⟩ : ∃ k, k = l1.length + 6000 := ⟨_, rfl⟩
  have hal : law09_alive.F k = some true := by rw [hk, show l1.length + 6000 = (l1.length + 5980) + 20 by omega]; exact alive_F _
  rw [← hk]
  obtain ⟨m, hm⟩ : ∃ m : Nat, (if 4096 < ((l0.length : Nat) : Int) then 4096 else ((l0.length : Nat) : Int)) = (m : Int) := ⟨min 4096 l0.length, by split <;> omega⟩
  have hml : m ≤ 4096 ∧ m ≤ l0.length := by split at hm <;> omega
  obtain ⟨T, hT⟩ : ∃ T, T = l0.take m := ⟨_, rfl⟩
  have hTl : T.length = m := by rw [hT, List.length_take]; omega
  have eT : (l0.drop (Int.toNat 0)).take (m - Int.toNat 0) = T := by rw [hT]; rfl
  unfold law09_ReasmBack.F
  have c0 : decide ((0 : Int) ≤ (0 : Int) ∧ (0 : Int) ≤ (m : Int) ∧ (m : Int) ≤ (l0.length : Int)) = true := decide_eq_true ⟨by omega, by omega, by omega⟩
  obtain ⟨q, e, hq, hqe⟩ := new_ok k 4096 (by omega) (by omega)
  simp only [e, Option.bind_some, hal, cond_true, cond_false, bne_f (show (0 : Int) = 0 from rfl), hm, c0]
  refine loop_all _ l1.length (fun j s => ∃ got q, s = (got, (j : Int), q) ∧ Came T q got) ?_ ?_ k 0 _ (Nat.zero_le _) ⟨[], q, rfl, ?_⟩ (by omega)
  · rintro j _ hj ⟨got, q, rfl, h⟩
    obtain ⟨a, ham, hga, hix⟩ := idx_F l1 j hj
    obtain ⟨a1, a2, a3, a4⟩ := hl.p a ham
    have hn1 := hl.n1
    have hTm : T.length ≤ 4096 := by omega
    have fin : ∀ (q' : Stm), Came T q' got → ∃ s', (∃ got q, s' = (got, ((j + 1 : Nat) : Int), q) ∧ Came T q got) ∧ backRest k T m l2 got (j : Int) q' = some (.inl s') := fun q' h' => by
      obtain ⟨got', q2, e1, e2⟩ := rest_F k hTm l2 h' j (by omega)
      rw [hTl] at e1
      exact ⟨_, ⟨got', q2, rfl, e2⟩, e1⟩
    unfold law09_ReasmBack.s2
    simp only [hix, cond_true, hga, Option.bind_some, hm, Int.toNat_natCast, Nat.sub_zero, eT]
    by_cases hm0 : m = 0
    · rw [decide_eq_false (show ¬ (0 : Int) < (m : Int) by omega)]
      exact fin q h
    · have p0 : IntKind.wrap IntKind.i64 a.1 = a.1 := wrap_in _ (by omega) (by omega)
      have p1 : IntKind.wrap IntKind.i64 a.2 = a.2 := wrap_in _ (by omega) (by omega)
      obtain ⟨u, hu, hum⟩ : ∃ u : Nat, Int.tmod a.1 (m : Int) = (u : Int) ∧ u < m := by
        have h1 := Int.tmod_nonneg (m : Int) a1
        have h2 := Int.tmod_lt_of_pos a.1 (show (0 : Int) < (m : Int) by omega)
        exact ⟨(Int.tmod a.1 (m : Int)).toNat, by omega, by omega⟩
      have p2 : IntKind.wrap IntKind.i64 ((u : Int) + a.2) = (u : Int) + a.2 := wrap_in _ (by omega) (by omega)
      obtain ⟨v, hv, huv, hvm⟩ : ∃ v : Nat, (if (m : Int) < (u : Int) + a.2 then (m : Int) else (u : Int) + a.2) = (v : Int) ∧ u ≤ v ∧ v ≤ m := by
        split
        · exact ⟨m, rfl, by omega, Nat.le_refl _⟩
        · exact ⟨((u : Int) + a.2).toNat, by omega, by omega, by omega⟩
      have c1 : decide ((0 : Int) < (m : Int)) = true := decide_eq_true (by omega)
      have c2 : decide ((m : Int) ≠ 0) = true := decide_eq_true (by omega)
      have c3 : decide ((0 : Int) ≤ (u : Int) ∧ (u : Int) ≤ (v : Int) ∧ (v : Int) ≤ (T.length : Int)) = true := decide_eq_true ⟨by omega, by omega, by omega⟩
      simp only [c1, c2, cond_true, p0, p1, hu, p2, hv, c3, Int.toNat_natCast]
      by_cases hvm2 : v = m
      · obtain ⟨q', hD, _, hc⟩ := came_data k (by omega) hTm h u v huv (by omega) true ⟨fun _ => by omega, fun _ => rfl⟩
        rw [beq_t (show (v : Int) = (m : Int) by omega)]
        simp only [cond_true, hD, Option.bind_some, bne_f (show (0 : Int) = 0 from rfl), cond_false]
        exact fin q' hc
      · obtain ⟨q', hD, _, hc⟩ := came_data k (by omega) hTm h u v huv (by omega) false ⟨fun hh => (by cases hh), fun hh => by omega⟩
        rw [beq_f (show ¬ (v : Int) = (m : Int) by omega)]
        simp only [cond_true, hD, Option.bind_some, bne_f (show (0 : Int) = 0 from rfl), cond_false]
        exact fin q' hc
  · rintro _ ⟨got, q, rfl, h⟩
    have hTm : T.length ≤ 4096 := by omega
    unfold law09_ReasmBack.s2
    simp only [idx_e, cond_false, hm, Int.toNat_natCast, Nat.sub_zero, eT]
    obtain ⟨q3, hD, hd, h3⟩ := came_data k (by omega) hTm h 0 m (Nat.zero_le _) (by omega) true ⟨fun _ => by omega, fun _ => rfl⟩
    have eb : (T.drop 0).take (m - 0) = T := by rw [List.drop_zero, Nat.sub_zero, List.take_of_length_le (by omega)]
    rw [eb] at hD hd
    rw [show ((0 : Nat) : Int) = 0 from rfl] at hD
    have w1 : IntKind.wrap IntKind.i64 ((m : Int) + 1) = (m : Int) + 1 := wrap_in _ (by omega) (by omega)
    obtain ⟨out, q4, hR, hr, h4⟩ := came_read k h3 ((m : Int) + 1)
    have hle := h4.le
    rw [List.length_append] at hle
    have c1 : decide ((got.length + out.length) * 1 ≤ 140737488355328) = true := decide_eq_true (by omega)
    have hpos3 := h3.pos
    have hle3 := h3.le
    have hrd3 := came_ready h3
    -- all that is left is ready
    have hfull : readyOf q3.2.1 q3.2.2.2.1 = (m : Int) - q3.2.1 := by
      have hall : ∀ o, q3.2.1 ≤ o → o < (m : Int) → Mem o q3.2.2.2.1 := fun o h1 h2 => (hd.mem o).2 (Or.inr ⟨by rw [← hd.same]; exact h1, by omega, by rw [hTl]; omega⟩)
      rcases Nat.lt_or_ge got.length m with hlt | hge
      · obtain ⟨x, hx, hxo⟩ := hall q3.2.1 (Int.le_refl _) (by omega)
        have hrt := h3.good.rt
        have hsp := h3.sp
        cases hc : q3.2.2.2.1 with
        | nil => rw [hc] at hx; cases hx
        | cons y r =>
          rw [hc] at hx hrt hall hsp
          obtain ⟨p1, p2⟩ := List.pairwise_cons.1 hrt.pw
          have g1 := hrt.lo y (List.mem_cons_self ..)
          have g2 := hsp y (List.mem_cons_self ..)
          have hy : y.1 = q3.2.1 := by
            rcases List.mem_cons.1 hx with rfl | hx
            · omega
            · have := p1 x hx; omega
          have hy2 : y.2 + 1 = (m : Int) := by
            by_cases hlt2 : y.2 + 1 < (m : Int)
            · obtain ⟨z, hz, hzo⟩ := hall (y.2 + 1) (by omega) hlt2
              rcases List.mem_cons.1 hz with rfl | hz
              · omega
              · have := p1 z hz; omega
            · omega
          simp only [readyOf]
          rw [if_neg (by omega)]; omega
      · omega
    have hout : (out.length : Int) = (m : Int) - q3.2.1 := by rw [hr.full (by omega), hfull]
    have hsame : got ++ out = T := by
      have := h4.got
      rw [← this, List.length_append, List.take_of_length_le (by omega)]
    have hkn : q4.2.2.2.2.2.1 = true := by rw [hr.en, hd.known]; rfl
    have hov : over q4 = true := by
      unfold over
      rw [hkn, beq_t (show q4.2.1 = q4.2.2.2.2.1 by rw [h4.en hkn, h4.pos, hsame])]
      simp
    simp only [hD, Option.bind_some, bne_f (show (0 : Int) = 0 from rfl), cond_false, w1, hR, c1, cond_true, same_F k hsame, over_F k h4.good, hov]
  · subst hqe
    exact ⟨hq, rfl, fun hh => (by cases hh), fun o ho => (by obtain ⟨x, hx, _⟩ := ho; cases hx), rfl, Nat.zero_le _, rfl, fun o ho => (by obtain ⟨x, hx, _⟩ := ho; cases hx)⟩
end Go.Proofs.Ytdjeadgebcndeaa.X
