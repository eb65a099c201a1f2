/- Reasm: bytes of a text that came, in plain words. -/
import Derived.Test.YtdjeadgebcndeaaRp6
namespace Go.Proofs.Ytdjeadgebcndeaa.X
open Go Go.Proofs.YtdjeadgebcndeaaW.Rx
set_option linter.unusedVariables false
set_option linter.unusedSimpArgs false
/-- A text's byte at an offset. -/
def atT (T : List Int) (o : Int) : Int := T.getD o.toNat 0
structure Came (T : List Int) (q : Stm) (got : List Int) : Prop where
  good : Good 4096 q
  nb : q.2.2.2.2.2.2 = false
  en : q.2.2.2.2.2.1 = true → q.2.2.2.2.1 = (T.length : Int)
  up : ∀ o, Mem o q.2.2.2.1 → o < (T.length : Int)
  pos : q.2.1 = (got.length : Int)
  le : got.length ≤ T.length
  got : T.take got.length = got
  row : Holds (atT T) q.2.1 q.2.2.1 (fun o => Mem o q.2.2.2.1)
theorem Came.sp {T : List Int} {q : Stm} {got : List Int} (h : Came T q got) : ∀ x ∈ q.2.2.2.1, x.2 < (T.length : Int) := fun x hx => h.up x.2 ⟨x, hx, (h.good.rt.lo x hx).2, Int.le_refl _⟩
theorem sub_at {T : List Int} {u v : Nat} (i : Nat) (x : Int) (h : ((T.drop u).take (v - u))[i]? = some x) : x = atT T ((u : Int) + (i : Nat)) := by
  rw [List.getElem?_take] at h
  split at h
  · rw [List.getElem?_drop] at h
    unfold atT
    rw [show ((u : Int) + (i : Nat)).toNat = u + i by omega, List.getD_eq_getElem?_getD, h]; rfl
  · cases h
theorem came_data {T : List Int} {q : Stm} {got : List Int} (k : Nat) (hk : 5000 < k) (hT : T.length ≤ 4096) (h : Came T q got) (u v : Nat) (huv : u ≤ v) (hv : v ≤ T.length) (fin : Bool) (hf : fin = true → v = T.length) :
    ∃ q', reasm_Stream_Data.F k q (u : Int) ((T.drop u).take (v - u)) fin = some (0, q') ∧ DataOK 4096 q (u : Int) ((T.drop u).take (v - u)) fin q' ∧ Came T q' got := by
  have hl : ((T.drop u).take (v - u)).length = v - u := by rw [List.length_take, List.length_drop]; omega
  have ha0 := h.good.a0
  have hpos := h.pos
  have hle := h.le
  obtain ⟨e, q', hD, hc, he⟩ := data_F k h.good hk (n := (u : Int)) (b := (T.drop u).take (v - u)) (fin := fin) (by omega)
  have e0 := he (by omega) (by omega) h.nb (by omega) (fun hkn => by
    have := h.en hkn
    exact ⟨by omega, fun hh => by have := hf hh; omega⟩) (fun hh => by
    have := hf hh
    exact ⟨by omega, fun x hx => by have := h.sp x hx; omega⟩)
  subst e0
  rcases hc with ⟨hc, _⟩ | ⟨_, hc⟩
  · exact absurd rfl hc
  refine ⟨q', hD, hc, hc.good, hc.nb', fun hkn => ?_, fun o ho => ?_, by rw [hc.same, h.pos], h.le, h.got, ?_⟩
  · rw [hc.en]
    cases fin with
    | true => have := hf rfl; simp only [if_true]; omega
    | false =>
      rw [hc.known] at hkn
      have := h.en (by simpa using hkn)
      simpa using this
  · rcases (hc.mem o).1 ho with ho | ho
    · exact h.up o ho
    · omega
  · rw [hc.same]
    exact hc.txt _ h.row (fun i x hx => sub_at i x hx)
theorem came_ready {T : List Int} {q : Stm} {got : List Int} (h : Came T q got) : 0 ≤ readyOf q.2.1 q.2.2.2.1 ∧ q.2.1 + readyOf q.2.1 q.2.2.2.1 ≤ (T.length : Int) := by
  have hr := ready_le h.good
  have hpos := h.pos
  have hle := h.le
  refine ⟨hr.1, ?_⟩
  cases hc : q.2.2.2.1 with
  | nil => simp only [readyOf]; omega
  | cons x r =>
    have := h.sp x (by rw [hc]; exact List.mem_cons_self ..)
    simp only [readyOf]
    split <;> omega
theorem came_read {T : List Int} {q : Stm} {got : List Int} (k : Nat) (h : Came T q got) (n : Int) :
    ∃ out q', reasm_Stream_Read.F k q n = some (out, q') ∧ ReadOK 4096 q n out q' ∧ Came T q' (got ++ out) := by
  obtain ⟨out, q', hD, hc⟩ := read_F k h.good (n := n)
  have hr := came_ready h
  have hle := hc.le
  have hpos := h.pos
  obtain ⟨hrow, hout⟩ := hc.row _ h.row
  have hlen : got.length + out.length ≤ T.length := by omega
  refine ⟨out, q', hD, hc, hc.good, by rw [hc.en]; exact h.nb, by rw [hc.en]; exact h.en, fun o ho => h.up o ((hc.mem o).1 ho).1, by rw [hc.at', h.pos, List.length_append]; omega, by rw [List.length_append]; exact hlen, ?_, hrow⟩
  refine List.ext_getElem? fun i => ?_
  rw [List.length_append, List.getElem?_take]
  rcases Nat.lt_or_ge i got.length with hi | hi
  · rw [if_pos (by omega), List.getElem?_append_left hi]
    conv => rhs; rw [← h.got]
    rw [List.getElem?_take, if_pos hi]
  · rw [List.getElem?_append_right hi]
    split
    · rename_i hlt
      have hx : out[i - got.length]? = some out[i - got.length] := List.getElem?_eq_getElem (by omega)
      have := hout _ _ hx
      rw [hx, this]
      unfold atT
      rw [show (q.2.1 + ((i - got.length : Nat) : Int)).toNat = i by omega, List.getD_eq_getElem?_getD, List.getElem?_eq_getElem (show i < T.length by omega)]; rfl
    · rw [List.getElem?_eq_none (by omega)]
theorem same_F (k : Nat) {a b : List Int} (h : a = b) : ref01_Same.F k a b = some true := by
  subst h
  unfold ref01_Same.F
  rw [beq_self_eq_true]; rfl
theorem new_ok (k : Nat) (W : Int) (h1 : 1 ≤ W) (h2 : W ≤ 4096) : ∃ q : Stm, reasm_New.F k W = some (some q, 0) ∧ Good W q ∧ q = (W, 0, List.replicate W.toNat 0, [], 0, false, false) := by
  rcases new_F k W with e | ⟨q, e, hq, hqe, _⟩
  · unfold reasm_New.F at e
    rw [decide_eq_false (by omega), decide_eq_false (by omega)] at e
    have := (Prod.mk.inj (Option.some.inj e)).1
    cases this
  · exact ⟨q, e, hq, hqe⟩
theorem came_all {T : List Int} {q : Stm} {got : List Int} (h : Came T q got) (hall : ∀ o, q.2.1 ≤ o → o < (T.length : Int) → Mem o q.2.2.2.1) : readyOf q.2.1 q.2.2.2.1 = (T.length : Int) - q.2.1 := by
  have hpos := h.pos
  have hle := h.le
  have hrd := came_ready h
  rcases Nat.lt_or_ge got.length T.length with hlt | hge
  · obtain ⟨x, hx, hxo⟩ := hall q.2.1 (Int.le_refl _) (by omega)
    have hrt := h.good.rt
    have hsp := h.sp
    cases hc : q.2.2.2.1 with
    | nil => rw [hc] at hx; cases hx
    | cons y r =>
      rw [hc] at hx hrt hall hsp
      obtain ⟨p1, p2⟩ := List.pairwise_cons.1 hrt.pw
      have g1 := hrt.lo y (List.mem_cons_self ..)
      have g2 := hsp y (List.mem_cons_self ..)
      have hy : y.1 = q.2.1 := by
        rcases List.mem_cons.1 hx with rfl | hx
        · omega
        · have := p1 x hx; omega
      have hy2 : y.2 + 1 = (T.length : Int) := by
        by_cases hlt2 : y.2 + 1 < (T.length : Int)
        · obtain ⟨z, hz, hzo⟩ := hall (y.2 + 1) (by omega) hlt2
          rcases List.mem_cons.1 hz with rfl | hz
          · omega
          · have := p1 z hz; omega
        · omega
      simp only [readyOf]
      rw [if_neg (by omega)]; omega
  · omega
theorem loop_gen {σ ρ : Type} (r : ρ) (f : σ → Option (Sum σ ρ)) (n : Nat) (I : Nat → σ → Prop) (hs : ∀ j s, j < n → I j s → ∃ s', I (j + 1) s' ∧ f s = some (.inl s')) (he : ∀ s, I n s → f s = some (.inr r)) : ∀ (k j : Nat) (s : σ), j ≤ n → I j s → n - j < k → iter f k s = some r := by
  intro k
  induction k with
  | zero => intro j s _ _ h; omega
  | succ k ih =>
    intro j s hj hI hk
    rcases Nat.lt_or_ge j n with h | h
    · obtain ⟨s', h1, h2⟩ := hs j s h hI
      rw [iter_l h2]
      exact ih (j + 1) s' h h1 (by omega)
    · obtain rfl : j = n := by omega
      exact iter_r (he s hI)
end Go.Proofs.Ytdjeadgebcndeaa.X
