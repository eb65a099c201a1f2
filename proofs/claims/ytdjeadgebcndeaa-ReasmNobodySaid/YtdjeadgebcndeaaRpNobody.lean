/- Reasm: a stream that nobody made; bytes that are written over, in plain words. -/
import Derived.Test.YtdjeadgebcndeaaRp7
import Derived.Test.YtdjeadgebcndeaaRlNob
namespace Go.Proofs.Ytdjeadgebcndeaa.X
open Go Go.Proofs.YtdjeadgebcndeaaW.Rx
set_option linter.unusedVariables false
set_option linter.unusedSimpArgs false
abbrev zStm : Stm := (0, 0, [], [], 0, false, false)
section
variable (k : Nat) {ob : Option Stm} (h : ob = none ∨ ob = some zStm)
include h
theorem nob_ok : reasm_Stream_ok.F k ob = some false := by rcases h with rfl | rfl <;> rfl
theorem nob_End : reasm_Stream_End.F k ob = some (0, false) := by unfold reasm_Stream_End.F; rw [nob_ok k h]; rfl
theorem nob_Data (n : Int) (b : List Int) (f : Bool) : reasm_Stream_DataR.F k ob n b f = some 2 := by unfold reasm_Stream_DataR.F; rw [nob_ok k h]; rfl
theorem nob_Reset (n : Int) : reasm_Stream_ResetR.F k ob n = some 2 := by unfold reasm_Stream_ResetR.F; rw [nob_ok k h]; rfl
theorem nob_Ready : reasm_Stream_Ready.F k ob = some 0 := by unfold reasm_Stream_Ready.F; rw [nob_ok k h]; rfl
theorem nob_Read (n : Int) : reasm_Stream_ReadR.F k ob n = some [] := by
  unfold reasm_Stream_ReadR.F; rw [nob_Ready k h]
  have : decide ((if (0 : Int) < n then 0 else n) < 1) = true := decide_eq_true (by split <;> omega)
  simp only [Option.bind_some, this, cond_true]
theorem nob_Limit : reasm_Stream_Limit.F k ob = some 0 := by unfold reasm_Stream_Limit.F; rw [nob_ok k h]; rfl
theorem nob_At : reasm_Stream_At.F k ob = some 0 := by unfold reasm_Stream_At.F; rw [nob_ok k h]; rfl
theorem nob_Held : reasm_Stream_Held.F k ob = some 0 := by unfold reasm_Stream_Held.F; rw [nob_ok k h]; rfl
theorem nob_Over : reasm_Stream_Over.F k ob = some true := by unfold reasm_Stream_Over.F; rw [nob_ok k h]; rfl
theorem nob_Broken : reasm_Stream_Broken.F k ob = some false := by unfold reasm_Stream_Broken.F; rw [nob_ok k h]; rfl
end
theorem str_app (a b : List Int) : strOfNums a ++ strOfNums b = strOfNums (a ++ b) := by
  apply ByteArray.ext
  rw [ByteArray.data_append]
  simp [strOfNums]
/-- Each round of the first loop. -/
theorem nob_step (k : Nat) (a1 : Int) (a3 : Bool) (l0 l2 : List Int) (i j : Int) (ob : Option Stm) (h : ob = none ∨ ob = some zStm) (hi : decide (i < 2) = true) (hg : getI ([none, some zStm] : List (Option Stm)) i = some ob) (hw : IntKind.wrap IntKind.i64 (i + 1) = j) : law09_ReasmNobody.s2 k a1 a3 l0 l2 i = some (.inl j) := by
  unfold law09_ReasmNobody.s2
  have e2 : (((([none, some zStm] : List (Option Stm))).length : Nat) : Int) = 2 := rfl
  simp only [e2, hi, hg, cond_true, Option.bind_some, nob_End k h, nob_Data k h, nob_Reset k h, nob_Read k h, nob_Ready k h, nob_Limit k h, nob_At k h, nob_Held k h, nob_Over k h, nob_Broken k h, hw, cond_false, bne_f (show (2 : Int) = 2 from rfl), bne_f (show (0 : Int) = 0 from rfl), bne_f (show ((([] : List Int).length : Nat) : Int) = 0 from rfl)]
  cases a3 <;> rfl
set_option maxHeartbeats 4000000 in
theorem nobody_true (l0 : List Int) (a0 a1 : Int) (l2 : List Int) (a3 : Bool) : law09_ReasmNobody.F 6000 l0 a0 a1 l2 a3 = some true := by
  obtain ⟨k, hk⟩ : ∃ k, k = 6000 := ⟨_, rfl⟩
  have hal : law09_alive.F k = some true := by rw [hk]; exact alive_F 5980
  rw [← hk]
  unfold law09_ReasmNobody.F
  obtain ⟨k3, hk3⟩ : ∃ k3, k = k3 + 3 := ⟨5997, hk⟩
  suffices hfin : law09_ReasmNobody.s2 k a1 a3 l0 l2 2 = some (.inr true) by
    generalize hf : law09_ReasmNobody.s2 k a1 a3 l0 l2 = f at hfin ⊢
    have s0 : f 0 = some (.inl 1) := by rw [← hf]; exact nob_step k a1 a3 l0 l2 0 1 none (Or.inl rfl) rfl rfl rfl
    have s1 : f 1 = some (.inl 2) := by rw [← hf]; exact nob_step k a1 a3 l0 l2 1 2 (some zStm) (Or.inr rfl) rfl rfl rfl
    rw [hk3, iter_l s0, iter_l s1, iter_r hfin]
  obtain ⟨m, hm⟩ : ∃ m : Nat, (if 4000 < ((l0.length : Nat) : Int) then 4000 else ((l0.length : Nat) : Int)) = (m : Int) := ⟨min 4000 l0.length, by split <;> omega⟩
  have hml : m ≤ 4000 ∧ m ≤ l0.length := by split at hm <;> omega
  obtain ⟨T, hT⟩ : ∃ T, T = l0.take m := ⟨_, rfl⟩
  have hTl : T.length = m := by rw [hT, List.length_take]; omega
  have eT : (l0.drop (Int.toNat 0)).take (m - Int.toNat 0) = T := by rw [hT]; rfl
  have c0 : decide ((0 : Int) ≤ (0 : Int) ∧ (0 : Int) ≤ (m : Int) ∧ (m : Int) ≤ (l0.length : Int)) = true := decide_eq_true ⟨by omega, by omega, by omega⟩
  have c1 : decide ((([] : List Int).length + T.length) * 1 ≤ 140737488355328) = true := decide_eq_true (by rw [hTl, List.length_nil]; omega)
  have e2 : (((([none, some zStm] : List (Option Stm))).length : Nat) : Int) = 2 := rfl
  obtain ⟨q, e, hq, hqe⟩ := new_ok k 4096 (by omega) (by omega)
  unfold law09_ReasmNobody.s2
  simp only [e2, decide_eq_false (show ¬ (2 : Int) < 2 by omega), cond_false, e, Option.bind_some, bne_f (show (0 : Int) = 0 from rfl), hm, c0, cond_true, Int.toNat_natCast, eT, c1]
  rw [List.nil_append]
  have hcame0 : Came T q [] := by
    subst hqe
    exact ⟨hq, rfl, fun hh => (by cases hh), fun o ho => (by obtain ⟨x, hx, _⟩ := ho; cases hx), rfl, Nat.zero_le _, rfl, fun o ho => (by obtain ⟨x, hx, _⟩ := ho; cases hx)⟩
  obtain ⟨q6, hD, hd, h6⟩ := came_data k (by omega) (by omega) hcame0 0 m (Nat.zero_le _) (by omega) false (fun hh => by cases hh)
  have eb : (T.drop 0).take (m - 0) = T := by rw [List.drop_zero, Nat.sub_zero, List.take_of_length_le (by omega)]
  rw [eb, show ((0 : Nat) : Int) = 0 from rfl] at hD hd
  simp only [hD, Option.bind_some]
  have hq0 : q.2.1 = 0 := by rw [hqe]
  have hs1 : q6.2.1 = 0 := by rw [hd.same, hq0]
  obtain ⟨out, q8, hR, hr, h8⟩ := came_read k h6 (IntKind.wrap IntKind.i64 (Int.tdiv (m : Int) 2))
  rw [List.nil_append] at h8
  obtain ⟨out2, q9, hR2, hr2, h9⟩ := came_read k h8 4096
  have hl8 := h8.le
  have hl9 := h9.le
  rw [List.length_append] at hl9
  have hp8 := h8.pos
  have hrd8 := came_ready h8
  have hfull : readyOf q8.2.1 q8.2.2.2.1 = (T.length : Int) - q8.2.1 := came_all h8 (fun o h1 h2 => (hr.mem o).2 ⟨(hd.mem o).2 (Or.inr ⟨by rw [hq0]; have := hr.at'; omega, by have := hr.at'; omega, by omega⟩), by rw [← hr.at']; exact h1⟩)
  have hout2 : (out2.length : Int) = (T.length : Int) - q8.2.1 := by rw [hr2.full (by omega), hfull]
  have hsame : out ++ out2 = T := by
    have := h9.got
    rw [← this, List.length_append, List.take_of_length_le (by omega)]
  refine loop_gen (Sum.inr true) _ m (fun j s => ∃ l : List Int, s = ((j : Int), q6, l) ∧ l.length = m) ?_ ?_ k 0 _ (Nat.zero_le _) ⟨T, rfl, hTl⟩ (by omega)
  · rintro j _ hj ⟨l, rfl, hl⟩
    obtain ⟨a, _, hga, _⟩ := idx_F l j (by omega)
    have hw : IntKind.wrap IntKind.i64 ((j : Int) + 1) = ((j + 1 : Nat) : Int) := by rw [wrap_in _ (by omega) (by omega)]; rfl
    unfold law09_ReasmNobody.s7
    simp only [hm, Int.toNat_natCast, eT, List.nil_append, hTl, decide_eq_true (show (j : Int) < (m : Int) by omega), cond_true, hga, Option.bind_some, hw]
    exact ⟨_, ⟨_, rfl, by rw [List.length_set]; exact hl⟩, rfl⟩
  rintro _ ⟨l, rfl, hl⟩
  unfold law09_ReasmNobody.s7
  simp only [hm, Int.toNat_natCast, eT, List.nil_append, hTl, decide_eq_false (show ¬ (m : Int) < (m : Int) by omega), cond_false, hR, Option.bind_some]
  refine loop_gen (Sum.inr (Sum.inr true)) _ out.length (fun j s => ∃ l : List Int, s = ((j : Int), q8, l) ∧ l.length = out.length) ?_ ?_ k 0 _ (Nat.zero_le _) ⟨out, rfl, rfl⟩ (by omega)
  · rintro j _ hj ⟨l, rfl, hl⟩
    obtain ⟨a, _, hga, _⟩ := idx_F l j (by omega)
    have hw : IntKind.wrap IntKind.i64 ((j : Int) + 1) = ((j + 1 : Nat) : Int) := by rw [wrap_in _ (by omega) (by omega)]; rfl
    unfold law09_ReasmNobody.s10
    simp only [decide_eq_true (show (j : Int) < ((out.length : Nat) : Int) by omega), cond_true, hga, Option.bind_some, hw]
    exact ⟨_, ⟨_, rfl, by rw [List.length_set]; exact hl⟩, rfl⟩
  rintro _ ⟨l, rfl, hl⟩
  unfold law09_ReasmNobody.s10
  have c5 : decide (ByteArray.size (strOfNums out) + ByteArray.size (strOfNums out2) ≤ 9223372036854775807) = true := decide_eq_true (by rw [strOfNums_size, strOfNums_size]; omega)
  simp only [decide_eq_false (show ¬ ((out.length : Nat) : Int) < ((out.length : Nat) : Int) by omega), cond_false, hR2, Option.bind_some, c5, cond_true, hm, Int.toNat_natCast, eT, List.nil_append, str_app, hsame, beq_self_eq_true, hal]
end Go.Proofs.Ytdjeadgebcndeaa.X
