/- Numbers that are put one behind the other are All's, and those that may not be are refused; for every list of numbers. -/
import Derived.Test.YtbfpoannmkblhaaVintAll
import Derived.Test.YtbfpoannmkblhaaPAllx29
namespace Go.Proofs.Ytbfpoannmkblhaa.Pure
open Go.RowKit Go.Proofs.Ytbfpoannmkblhaa.PAll Go.Proofs.YtbfpoannmkblhaaW.PrintWords Go.Proofs.YtbfpoannmkblhaaW.PrintLast Go.Proofs.YtbfpoannmkblhaaW.PrintMore Go.Proofs.Ytbfpoannmkblhaa.Plain
set_option linter.unusedVariables false
theorem row_alive (k : Nat) (hk : 60 ≤ k) : turnbucklelaw01_alive.f k = some true :=
  at_rounds (fun k => turnbucklelaw01_alive.mono k) hk (by decide +kernel)
/-- numbers put one behind the other -/
def enc (b : List Int) (ns : List Int) : List Int := ns.foldl putn b
theorem putn_front (b : List Int) (n : Int) : putn b n = b ++ putn [] n := by simp [putn, putw]
theorem enc_front (ns : List Int) : ∀ b, enc b ns = b ++ enc [] ns := by
  induction ns with
  | nil => intro b; simp [enc]
  | cons n ns ih =>
    intro b
    show enc (putn b n) ns = b ++ enc (putn [] n) ns
    rw [ih, ih (putn [] n), putn_front b n]
    simp
theorem putn_len8 (b : List Int) (n : Int) (h : may n = true) : ((putn b n).length : Int) = b.length + szOf n ∧ 1 ≤ szOf n ∧ szOf n ≤ 8 := by
  obtain ⟨h0, h3, hw, _, _⟩ := may_mark h
  have := putw_len b n _ h0 h3
  have hb := wide_bd h0 h3
  unfold putn
  omega
theorem enc_bytes (ns : List Int) : ∀ b, Bytes b → Bytes (enc b ns) := by
  induction ns with
  | nil => intro b h; exact h
  | cons n ns ih => intro b h; exact ih _ (putw_bytes h _ _)
/-- All reads a row back -/
theorem all_enc (ns : List Int) : ∀ (k : Nat) (pre acc : List Int), (∀ n ∈ ns, may n = true) → Bytes pre → (pre ++ enc [] ns).length ≤ 140737488351232 → acc.length + ns.length < 17592186044416 → ns.length + 60 < k →
    vint_All.l0 k (pre ++ enc [] ns) acc pre.length = some (acc ++ ns, 0, 0) := by
  induction ns with
  | nil =>
    intro k pre acc hm hb hl ha hk
    obtain ⟨k, rfl⟩ : ∃ m, k = m + 1 := ⟨k - 1, by omega⟩
    rw [vint_All.l0, if_neg (by simp [enc])]
    simp
  | cons n ns ih =>
    intro k pre acc hm hb hl ha hk
    obtain ⟨k, rfl⟩ : ∃ m, k = m + 1 := ⟨k - 1, by omega⟩
    have hn := hm n (by simp)
    obtain ⟨h0, h3, hw, hn0, hn1⟩ := may_mark hn
    obtain ⟨hl1, hs1, hs8⟩ := putn_len8 pre n hn
    have e : pre ++ enc [] (n :: ns) = putn pre n ++ enc [] ns := by
      show pre ++ enc (putn [] n) ns = _
      rw [enc_front ns (putn [] n), putn_front pre n]
      simp
    have hB : Bytes (putn pre n ++ enc [] ns) := by rw [← enc_front]; exact enc_bytes ns _ (putw_bytes hb _ _)
    rw [e] at hl ⊢
    rw [List.length_cons] at ha hk
    have hg : get (putn pre n ++ enc [] ns) pre.length = (n, pre.length + szOf n, 0, 0) := by
      have := get_putw pre (enc [] ns) n h0 h3 hn0 hn1
      rw [hw] at this
      exact this
    rw [vint_All.l0, if_pos (by rw [List.length_append]; omega), get_f _ hB hl _ (by rw [List.length_append] at hl; omega) k (by omega), hg]
    simp only [Option.bind_some]
    rw [if_neg (by decide), if_pos (by omega), ← hl1, ih k (putn pre n) (acc ++ [n]) (fun x hx => hm x (by simp [hx])) (putw_bytes hb _ _) hl (by simp; omega) (by omega)]
    simp
theorem row_end (ns : List Int) (hm : ∀ n ∈ ns, may n = true) (hl : (enc [] ns).length ≤ 140737488351232) (hn : ns.length < 17592186044416) (k : Nat) (hk : ns.length + 100 < k) :
    ((vint_All.f k (enc [] ns)).bind fun bt268 => ((turnbuckleref01_Ints.f k bt268.1 ns).bind fun t274 => (if t274 = true then (if (bt268.2.1 == 0 && (bt268.2.2 == 0)) = true then ((turnbucklelaw01_alive.f k).bind fun t275 => (some t275)) else (some false)) else (some false)))) = some true := by
  have := all_enc ns k [] [] hm (by intro x hx; cases hx) (by simpa using hl) (by simpa using hn) (by omega)
  simp only [List.nil_append, List.length_nil] at this
  unfold vint_All.f
  rw [show (0 : Int) = ((0 : Nat) : Int) from rfl, this]
  simp only [Option.bind_some]
  rw [ints_refl ns (by omega) k (by omega), row_alive k (by omega)]
  simp
theorem row_l0 (l : List Int) (hl8 : l.length * 8 ≤ 140737488351232) (d : Nat) : ∀ (k : Nat) (ns : List Int) (i : Int), 0 ≤ i → i ≤ l.length → (l.length : Int) - i = d → (∀ n ∈ ns, may n = true) → (ns.length : Int) ≤ i → ((enc [] ns).length : Int) ≤ 8 * i → 2 * d + l.length + 200 < k →
    turnbucklelaw01_VintRow.l0 k (enc [] ns) ns l l.length i = some true := by
  induction d with
  | zero =>
    intro k ns i h0 h1 hd hm hn he hk
    obtain ⟨k, rfl⟩ : ∃ m, k = m + 1 := ⟨k - 1, by omega⟩
    rw [turnbucklelaw01_VintRow.l0, if_neg (by omega)]
    exact row_end ns hm (by omega) (by omega) k (by omega)
  | succ d ih =>
    intro k ns i h0 h1 hd hm hn he hk
    obtain ⟨k, rfl⟩ : ∃ m, k = m + 1 + 1 := ⟨k - 2, by omega⟩
    rw [turnbucklelaw01_VintRow.l0, if_pos (by omega), if_pos h0, if_pos (by omega)]
    generalize rd l i = x
    rw [put_f _ (by omega) x _ (by omega)]
    simp only [Option.bind_some]
    by_cases c : may x = true
    · have c' := (may_iff x).1 c
      rw [if_pos c, if_pos (by omega), decide_eq_true (by omega)]
      simp only
      rw [turnbucklelaw01_VintRow.j1, if_neg (by decide), if_pos rfl, if_pos (by omega), w64 _ (by omega)]
      have e : putn (enc [] ns) x = enc [] (ns ++ [x]) := by simp [enc]
      have hp := putn_len8 (enc [] ns) x c
      rw [e] at hp ⊢
      exact ih k (ns ++ [x]) (i + 1) (by omega) (by omega) (by omega) (by intro n hn'; rcases List.mem_append.1 hn' with h | h; exact hm n h; simp at h; rw [h]; exact c) (by simp; omega) (by omega) (by omega)
    · rw [if_neg c]
      have hne : ¬ (0 ≤ x ∧ x ≤ 4611686018427387903) := fun h => c ((may_iff x).2 h)
      have fin : ∀ z, turnbucklelaw01_VintRow.j1 (k + 1) (enc [] ns) ns x z 1 l l.length i false = some true := by
        intro z
        rw [turnbucklelaw01_VintRow.j1, if_neg (by decide), if_neg (by decide), w64 _ (by omega)]
        exact ih k ns (i + 1) (by omega) (by omega) (by omega) hm (by omega) (by omega) (by omega)
      by_cases c2 : x ≥ 0
      · rw [if_pos c2, decide_eq_false (by omega)]
        exact fin _
      · rw [if_neg c2]
        exact fin _
theorem VintRow : turnbucklelaw01_VintRow.Pure := by
  intro l _ h8 _
  refine ⟨3 * l.length + 300, ?_⟩
  unfold turnbucklelaw01_VintRow.f
  have := row_l0 l h8 l.length (3 * l.length + 300) [] 0 (by omega) (by omega) (by omega) (by simp) (by simp) (by simp [enc]) (by omega)
  exact this
end Go.Proofs.Ytbfpoannmkblhaa.Pure
