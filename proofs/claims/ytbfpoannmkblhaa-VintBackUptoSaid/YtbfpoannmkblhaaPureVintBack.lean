/- What was put is got, with anything ahead and behind; for bytes of bulk at most 1048576. -/
import Derived.Test.YtbfpoannmkblhaaVintBack
import Derived.Test.YtbfpoannmkblhaaPAllx22
namespace Go.Proofs.Ytbfpoannmkblhaa.Pure
open Go.RowKit Go.Proofs.Ytbfpoannmkblhaa.PAll Go.Proofs.YtbfpoannmkblhaaW.PrintWords Go.Proofs.YtbfpoannmkblhaaW.PrintLast Go.Proofs.YtbfpoannmkblhaaW.PrintMore Go.Proofs.Ytbfpoannmkblhaa.Plain
set_option linter.unusedVariables false
theorem back_alive (k : Nat) (hk : 60 ≤ k) : turnbucklelaw01_alive.f k = some true :=
  at_rounds (fun k => turnbucklelaw01_alive.mono k) hk (by decide +kernel)
theorem VintBack : turnbucklelaw01_VintBack.Pure := by
  intro b r n w _ hb hby _ hr hry hn hw hsum
  refine ⟨100, ?_⟩
  unfold turnbucklelaw01_VintBack.f
  rw [putwide_f b (by omega) n w 100 (by decide), back_alive 100 (by decide)]
  simp only [Option.bind_some]
  by_cases c : mayw n w = true
  · obtain ⟨h0, h3, hwd, hn0, hn1⟩ := mayw_iff c
    have hbd := wide_bd h0 h3
    have hl := putw_len b n (mrk w) h0 h3
    rw [hwd] at hl hbd
    rw [if_pos c]
    simp only
    rw [if_pos trivial, if_pos (by rw [List.length_nil]; omega), List.nil_append, if_pos (by omega)]
    have hB : Bytes (putw b n (mrk w) ++ r) := by
      intro x hx
      rcases List.mem_append.1 hx with h | h
      · exact putw_bytes (bytes_of hby) _ _ x h
      · exact bytes_of hry x h
    rw [get_f _ hB (by rw [List.length_append]; omega) _ (by omega) 100 (by decide), get_putw b r n h0 h3 hn0 hn1, hwd]
    simp only [Option.bind_some]
    rw [if_pos trivial, w64 _ (by omega), if_pos rfl, if_pos (by decide), if_pos (by omega)]
  · rw [if_neg c]
    simp
end Go.Proofs.Ytbfpoannmkblhaa.Pure
