/- Samples that are all alike, without a delay, leave Smooth and Least as the sample; for every number and every count. -/
import Derived.Test.YtkkamnkjiebghaaPAllx13
import Derived.Test.YtkkamnkjiebghaaRttPlain
namespace Go.Proofs.Ytkkamnkjiebghaa.Pure
open Go.RowKit Go.Proofs.Ytkkamnkjiebghaa.PAll Go.Proofs.YtkkamnkjiebghaaW.PrintWords Go.Proofs.YtkkamnkjiebghaaW.PrintLast Go.Proofs.YtkkamnkjiebghaaW.PrintMore Go.Proofs.Ytkkamnkjiebghaa.Plain
set_option linter.unusedVariables false

theorem steady_alive (k : Nat) (hk : 12 ≤ k) : turnbucklelaw06_alive.f k = some true :=
  at_rounds (fun k => turnbucklelaw06_alive.mono k) hk (by decide +kernel)

theorem steady_no (n : Int) (h : tk n = false) (m : Nat) (p : St × List Int) : (List.replicate m n).foldl (stp 0) p = p := by
  induction m with
  | zero => rfl
  | succ m ih => rw [List.replicate_succ, List.foldl_cons, show stp 0 p n = p from by unfold stp; rw [h]; rfl]; exact ih
theorem steady_yes (n : Int) (h : tk n = true) (m : Nat) : ∀ (s : St) (t : List Int), s.h = true → s.a = n → s.b = n →
    ∃ s' : St, (List.replicate m n).foldl (stp 0) (s, t) = (s', t ++ List.replicate m n) ∧ s'.h = true ∧ s'.a = n ∧ s'.b = n := by
  induction m with
  | zero => intro s t h1 h2 h3; exact ⟨s, by simp, h1, h2, h3⟩
  | succ m ih =>
    intro s t h1 h2 h3
    rw [List.replicate_succ, List.foldl_cons]
    have e : stp 0 (s, t) n = (smp s n 0, t ++ [n]) := by unfold stp; rw [h]; rfl
    rw [e]
    have hc : cnt s n 0 = n := by
      unfold cnt mn
      rw [h2]
      simp
    obtain ⟨s', e1, e2, e3, e4⟩ := ih (smp s n 0) (t ++ [n]) (by unfold smp; rw [h1]; rfl) (by unfold smp; rw [h1, if_pos rfl, h2]; simp [mn]) (by unfold smp; rw [h1, if_pos rfl, hc, h3]; simp only; omega)
    exact ⟨s', by rw [e1]; simp, e2, e3, e4⟩

theorem steady_end (n : Int) (m k : Nat) (hm : 0 < m) (hm' : m ≤ 1000) (hk : 4000 < k) :
    ((turnbucklelaw06_play.f k (List.replicate m n) 0).bind fun bt147 => (if bt147.2.2.2.2.2.2 = true then (if (bt147.2.2.2.2.2.1.length : Int) = 0 then (if bt147.1 = true then (if (bt147.2.2.2.2.2.1.length : Int) = ((List.replicate m n).length : Int) then (if bt147.2.2.1 = n then (if bt147.2.1 = n then ((turnbucklelaw06_alive.f k).bind fun t157 => (some t157)) else (some false)) else (some false)) else (some false)) else ((turnbucklelaw06_alive.f k).bind fun t158 => (some t158))) else (if (bt147.2.2.2.2.2.1.length : Int) = ((List.replicate m n).length : Int) then (if bt147.2.2.1 = n then (if bt147.2.1 = n then ((turnbucklelaw06_alive.f k).bind fun t159 => (some t159)) else (some false)) else (some false)) else (some false))) else (some false))) = some true := by
  rw [play_f 0 _ (by simp; omega) k (by simp; omega), steady_alive k (by omega)]
  cases ht : tk n with
  | false =>
    rw [steady_no n ht]
    simp [answer, s0]
  | true =>
    obtain ⟨m, rfl⟩ : ∃ j, m = j + 1 := ⟨m - 1, by omega⟩
    rw [List.replicate_succ, List.foldl_cons]
    have e : stp 0 (s0, []) n = (smp s0 n 0, [n]) := by unfold stp; rw [ht]; rfl
    rw [e]
    obtain ⟨s', e1, e2, e3, e4⟩ := steady_yes n ht m (smp s0 n 0) [n] rfl rfl rfl
    rw [e1]
    simp [answer, e2, e3, e4]

theorem steady_l0 (n : Int) (M : Nat) (hM : 0 < M) (hM' : M ≤ 1000) (d : Nat) : ∀ (k i : Nat), i ≤ M → M - i = d → d + 4001 < k →
    turnbucklelaw06_RttSteady.l0 k n (List.replicate i n) M i = some true := by
  induction d with
  | zero =>
    intro k i h1 hd hk
    obtain ⟨k, rfl⟩ : ∃ m, k = m + 1 := ⟨k - 1, by omega⟩
    obtain rfl : i = M := by omega
    rw [turnbucklelaw06_RttSteady.l0]
    rw [if_neg (by exact Int.lt_irrefl _)]
    exact steady_end n _ k hM hM' (by omega)
  | succ d ih =>
    intro k i h1 hd hk
    obtain ⟨k, rfl⟩ : ∃ m, k = m + 1 := ⟨k - 1, by omega⟩
    rw [turnbucklelaw06_RttSteady.l0]
    rw [if_pos (by omega), if_pos (by simp; omega), w64 _ (by omega)]
    rw [← List.replicate_succ']
    exact ih k (i + 1) (by omega) (by omega) (by omega)

theorem RttSteady : turnbucklelaw06_RttSteady.Pure := by
  intro n m _ hm
  have hb := wf_u8 hm
  refine ⟨6000, ?_⟩
  unfold turnbucklelaw06_RttSteady.f
  rw [w64 m (by omega), w64 _ (by omega)]
  have := steady_l0 n (m + 1).toNat (by omega) (by omega) (m + 1).toNat 6000 0 (by omega) (by omega) (by omega)
  rw [show (((m + 1).toNat : Nat) : Int) = m + 1 from by omega] at this
  simpa using this
end Go.Proofs.Ytkkamnkjiebghaa.Pure
