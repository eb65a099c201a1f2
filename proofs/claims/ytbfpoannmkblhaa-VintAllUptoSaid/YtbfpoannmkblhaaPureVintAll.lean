/- All numbers of any bytes are the reference's, or the fault; for bytes of bulk at most 1048576. -/
import Derived.Test.YtbfpoannmkblhaaVintAll
import Derived.Test.YtbfpoannmkblhaaPAllx28
import Derived.Test.YtbfpoannmkblhaaPAllx26
namespace Go.Proofs.Ytbfpoannmkblhaa.Pure
open Go.RowKit Go.Proofs.Ytbfpoannmkblhaa.PAll Go.Proofs.YtbfpoannmkblhaaW.PrintWords Go.Proofs.YtbfpoannmkblhaaW.PrintLast Go.Proofs.YtbfpoannmkblhaaW.PrintMore Go.Proofs.Ytbfpoannmkblhaa.Plain
set_option linter.unusedVariables false
theorem all_alive (k : Nat) (hk : 60 ≤ k) : turnbucklelaw01_alive.f k = some true :=
  at_rounds (fun k => turnbucklelaw01_alive.mono k) hk (by decide +kernel)
theorem ref_same (b : List Int) (hb : Bytes b) (hl : b.length ≤ 17592186044000) (d : Nat) : ∀ (k : Nat) (acc : List Int) (i : Int), 0 ≤ i → i ≤ b.length → (b.length : Int) - i ≤ d → d + 50 < k →
    turnbuckleref01_All.l0 k b acc i = vint_All.l0 k b acc i := by
  induction d with
  | zero =>
    intro k acc i h0 h1 hd hk
    obtain ⟨k, rfl⟩ : ∃ m, k = m + 1 := ⟨k - 1, by omega⟩
    rw [vint_All.l0, turnbuckleref01_All.l0, if_neg (by omega), if_neg (by omega)]
  | succ d ih =>
    intro k acc i h0 h1 hd hk
    obtain ⟨k, rfl⟩ : ∃ m, k = m + 1 := ⟨k - 1, by omega⟩
    by_cases c : i < b.length
    · rw [vint_All.l0, turnbuckleref01_All.l0, if_pos c, if_pos c, get_f b hb (by omega) i (by omega) k (by omega), refget_f b hb (by omega) i (by omega) k (by omega)]
      rcases get_cases b i h0 c with ⟨n, j, e, j0, j1⟩ | ⟨e, a, eq, hne⟩
      · rw [e]
        simp only [Option.bind_some]
        rw [if_pos trivial, if_neg (show ¬ ((!((0 : Int) == 0) || (!((0 : Int) == 0))) = true) by decide), ih k _ j (by omega) j1 (by omega) (by omega)]
      · rw [eq]
        simp only [Option.bind_some]
        rw [if_neg hne, if_pos (by simp [hne])]
    · rw [vint_All.l0, turnbuckleref01_All.l0, if_neg c, if_neg c]
theorem VintAll : turnbucklelaw01_VintAll.Pure := by
  intro b _ _ hby hs
  have hb := bytes_of hby
  obtain ⟨r, hr, h⟩ := all_l0 b hb (by omega) b.length [] 0 (by omega) (by omega) (by omega) (by simp)
  refine ⟨b.length + 2000, ?_⟩
  unfold turnbucklelaw01_VintAll.f vint_All.f turnbuckleref01_All.f
  rw [ref_same b hb (by omega) b.length _ [] 0 (by omega) (by omega) (by omega) (by omega), h _ (by omega), all_alive _ (by omega)]
  simp only [Option.bind_some]
  rw [ints_refl r.1 (by omega) _ (by omega)]
  simp
end Go.Proofs.Ytbfpoannmkblhaa.Pure
