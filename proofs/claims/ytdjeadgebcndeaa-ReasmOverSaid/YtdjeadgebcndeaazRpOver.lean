import Derived.Test.YtdjeadgebcndeaazRp6
import Derived.Test.YtdjeadgebcndeaazRlOver
namespace Go.Proofs.Ytdjeadgebcndeaa.X
open Go Go.Proofs.YtdjeadgebcndeaaW.Rx
set_option linter.unusedVariables false
set_option linter.unusedSimpArgs false
theorem over_known {W : Int} {q : Stm} (h : Good W q) (ho : over q = true) : q.2.2.2.2.2.1 = true ∧ q.2.2.2.1 = [] ∧ (q.2.2.2.2.2.2 = false → q.2.1 = q.2.2.2.2.1) := by
 unfold over at ho
 cases hb : q.2.2.2.2.2.2 with
 | true => exact ⟨(h.br hb).1, (h.br hb).2, fun h => by cases h⟩
 | false =>
  rw [hb] at ho
  simp only [Bool.false_or, Bool.and_eq_true] at ho
  have he : q.2.1 = q.2.2.2.2.1 := by simpa using ho.2
  refine ⟨ho.1, ?_, fun _ => he⟩
  cases hc : q.2.2.2.1 with
  | nil => rfl
  | cons x r =>
   have hx : x ∈ q.2.2.2.1 := by rw [hc]; exact List.mem_cons_self ..
   have g1 := h.rt.lo x hx
   have g2 := (h.en ho.1).2.2.2 x hx
   omega
structure Stays (q q' : Stm) : Prop where
 a : q'.2.1 = q.2.1
 e : q'.2.2.2.2.1 = q.2.2.2.2.1
 k : q'.2.2.2.2.2.1 = q.2.2.2.2.2.1
 b : q'.2.2.2.2.2.2 = q.2.2.2.2.2.2
theorem Stays.over {q q' : Stm} (h : Stays q q') : X.over q' = X.over q := by unfold X.over; rw [h.a, h.e, h.k, h.b]
theorem data_stays {W : Int} {q q' : Stm} {n : Int} {b : List Int} {fin : Bool} (h : Good W q) (ho : over q = true) (hd : DataOK W q n b fin q') : Stays q q' := by
 obtain ⟨h1, h2, h3⟩ := over_known h ho
 have hk := hd.kn h1
 refine ⟨hd.same, ?_, ?_, by rw [hd.nb', hd.nb]⟩
 ·rw [hd.en]
  cases fin with
  | true => exact hk.2 rfl
  | false => rfl
 ·rw [hd.known, h1]; cases fin <;> rfl
theorem read_stays {W : Int} {q q' : Stm} {n : Int} {out : List Int} (h : Good W q) (ho : over q = true) (hd : ReadOK W q n out q') : Stays q q' ∧ out.length = 0 := by
 obtain ⟨h1, h2, h3⟩ := over_known h ho
 have hle := hd.le
 rw [h2] at hle
 simp only [readyOf] at hle
 have h0 : out.length = 0 := by omega
 have hat := hd.at'
 rw [h0] at hat
 have he := hd.en
 exact ⟨⟨by simpa using hat, by rw [he], by rw [he], by rw [he]⟩, h0⟩
set_option maxHeartbeats 4000000 in
theorem over_true (W : Int) (l : List Actt) (hl : Fit l) : law09_ReasmOver.F (l.length + 6000) W l = some true := by
 obtain ⟨k, hk⟩ : ∃ k, k = l.length + 6000 := ⟨_, rfl⟩
 have hal : law09_alive.F k = some true := by rw [hk, show l.length + 6000 = (l.length + 5980) + 20 by omega]; exact alive_F _
 rw [← hk]
 unfold law09_ReasmOver.F
 rcases new_F k W with e | ⟨q, e, hq, _⟩
 ·simp only [e, Option.bind_some, hal, cond_true, bne_t (show (1 : Int) ≠ 0 by decide)]
 simp only [e, Option.bind_some, hal, cond_true, cond_false, bne_f (show (0 : Int) = 0 from rfl)]
 refine loop_all _ l.length (fun j s => ∃ q, s = ((j : Int), q) ∧ Good W q) ?_ ?_ k 0 _ (Nat.zero_le _) ⟨q, rfl, hq⟩ (by omega)
 ·rintro j _ hj ⟨q, rfl, h⟩
  obtain ⟨a, ham, hga, hix⟩ := idx_F l j hj
  have hw := idx_w hj hl.1
  have ends : ∀ (q' : Stm), Good W q' → ∃ s', (∃ (q : Stm), s' = (((j + 1 : Nat) : Int), q) ∧ Good W q) ∧ (some (.inl (((j + 1 : Nat) : Int), q')) : Option (Sum (Int × Stm) Bool)) = some (.inl s') := fun q' h1 => ⟨_, ⟨q', rfl, h1⟩, rfl⟩
  have data : ∀ fin : Bool, ∃ e q', reasm_Stream_Data.F k q a.2.1 a.2.2.1 fin = some (e, q') ∧ Good W q' ∧ (over q = true → Stays q q') := fun fin => by
   obtain ⟨e, q', hD, hc, _⟩ := data_F k h (by omega) (n := a.2.1) (b := a.2.2.1) (fin := fin) (hl.2 a ham)
   refine ⟨e, q', hD, ?_, fun ho => ?_⟩
   ·rcases hc with ⟨_, rfl⟩ | ⟨_, hh⟩; exact h; exact hh.good
   ·rcases hc with ⟨_, rfl⟩ | ⟨_, hh⟩; exact ⟨rfl, rfl, rfl, rfl⟩; exact data_stays h ho hh
  have reset : ∃ e q', reasm_Stream_Reset.F k q a.2.1 = some (e, q') ∧ Good W q' ∧ (over q = true → Stays q q') := by
   obtain ⟨e, q', hD, hc⟩ := reset_F k h (n := a.2.1)
   refine ⟨e, q', hD, ?_, fun ho => ?_⟩
   ·rcases hc with ⟨_, rfl⟩ | ⟨_, hh⟩; exact h; exact hh.good
   ·rcases hc with ⟨_, rfl⟩ | ⟨_, hh⟩
    ·exact ⟨rfl, rfl, rfl, rfl⟩
    ·rw [hh.nov] at ho; cases ho
  unfold law09_ReasmOver.s2
  simp only [hix, cond_true, hga, Option.bind_some, over_F k h, at_F k h, broken_F k h, end_F k h, hw]
  cases ho : over q with
  | true =>
   obtain ⟨hkn, _, _⟩ := over_known h ho
   have fin : ∀ (q' : Stm), Good W q' → Stays q q' → over q' = true ∧ q'.2.2.2.2.2.1 = true ∧ (q'.2.1 != q.2.1) = false ∧ (q'.2.2.2.2.1 != q.2.2.2.2.1) = false ∧ q'.2.2.2.2.2.2 = q.2.2.2.2.2.2 := fun q' hg hs => ⟨by rw [hs.over, ho], by rw [hs.k, hkn], bne_f hs.a, bne_f hs.e, hs.b⟩
   by_cases k0 : Int.tmod a.1 3 = 0
   ·cases hf : a.2.2.2 with
    | true =>
     obtain ⟨e, q', hD, hg, hs⟩ := data true
     obtain ⟨f1, f2, f3, f4, f5⟩ := fin q' hg (hs ho)
     simp only [beq_t k0, cond_true, hkn, hD, Option.bind_some, end_F k hg, f2, over_F k hg, f1, at_F k hg, f3, cond_false, broken_F k hg, f5, f4]
     cases q.2.2.2.2.2.2 <;> exact ends q' hg
    | false =>
     obtain ⟨e, q', hD, hg, hs⟩ := data false
     obtain ⟨f1, f2, f3, f4, f5⟩ := fin q' hg (hs ho)
     simp only [beq_t k0, cond_true, hkn, hD, Option.bind_some, end_F k hg, f2, over_F k hg, f1, at_F k hg, f3, cond_false, broken_F k hg, f5, f4]
     cases q.2.2.2.2.2.2 <;> exact ends q' hg
   ·by_cases k1 : Int.tmod a.1 3 = 1
    ·obtain ⟨out, q1, hD1, hc1⟩ := read_F k h (n := a.2.1)
     obtain ⟨hs1, h01⟩ := read_stays h ho hc1
     have ho1 : over q1 = true := by rw [hs1.over, ho]
     obtain ⟨out2, q', hD2, hc2⟩ := read_F k hc1.good (n := a.2.1)
     obtain ⟨hs2, _⟩ := read_stays hc1.good ho1 hc2
     have hg := hc2.good
     have hln : (((out.length : Nat) : Int) != 0) = false := bne_f (by omega)
     obtain ⟨f1, f2, f3, f4, f5⟩ := fin q' hg ⟨by rw [hs2.a, hs1.a], by rw [hs2.e, hs1.e], by rw [hs2.k, hs1.k], by rw [hs2.b, hs1.b]⟩
     simp only [beq_f k0, beq_t k1, cond_true, cond_false, hkn, hD1, hD2, hln, Option.bind_some, end_F k hg, f2, over_F k hg, f1, at_F k hg, f3, broken_F k hg, f5, f4]
     cases q.2.2.2.2.2.2 <;> exact ends q' hg
    ·obtain ⟨e, q', hD, hg, hs⟩ := reset
     obtain ⟨f1, f2, f3, f4, f5⟩ := fin q' hg (hs ho)
     simp only [beq_f k0, beq_f k1, cond_true, cond_false, hkn, hD, Option.bind_some, end_F k hg, f2, over_F k hg, f1, at_F k hg, f3, broken_F k hg, f5, f4]
     cases q.2.2.2.2.2.2 <;> exact ends q' hg
  | false =>
   by_cases k0 : Int.tmod a.1 3 = 0
   ·cases hf : a.2.2.2 with
    | true =>
     obtain ⟨e, q', hD, hg, hs⟩ := data true
     simp only [beq_t k0, cond_true, cond_false, hD, Option.bind_some, end_F k hg]
     cases q.2.2.2.2.2.2 <;> cases q.2.2.2.2.2.1 <;> cases q'.2.2.2.2.2.1 <;> exact ends q' hg
    | false =>
     obtain ⟨e, q', hD, hg, hs⟩ := data false
     simp only [beq_t k0, cond_true, cond_false, hD, Option.bind_some, end_F k hg]
     cases q.2.2.2.2.2.2 <;> cases q.2.2.2.2.2.1 <;> cases q'.2.2.2.2.2.1 <;> exact ends q' hg
   ·by_cases k1 : Int.tmod a.1 3 = 1
    ·obtain ⟨out, q', hD, hc⟩ := read_F k h (n := a.2.1)
     have hg := hc.good
     simp only [beq_f k0, beq_t k1, cond_true, cond_false, hD, Option.bind_some, end_F k hg]
     cases q.2.2.2.2.2.2 <;> cases q.2.2.2.2.2.1 <;> cases q'.2.2.2.2.2.1 <;> exact ends q' hg
    ·obtain ⟨e, q', hD, hg, hs⟩ := reset
     simp only [beq_f k0, beq_f k1, cond_true, cond_false, hD, Option.bind_some, end_F k hg]
     cases q.2.2.2.2.2.2 <;> cases q.2.2.2.2.2.1 <;> cases q'.2.2.2.2.2.1 <;> exact ends q' hg
 ·rintro _ ⟨q, rfl, h⟩
  unfold law09_ReasmOver.s2
  simp only [idx_e, cond_false]
end Go.Proofs.Ytdjeadgebcndeaa.X
