-- written by wip/tools/mp.py, a program of this session, over the printer of the kit, out of the translation
import Derived.Test.YthenkaklhaehbaaPAllx0
import Derived.Test.YthenkaklhaehbaaPAllx3
import Derived.Test.YthenkaklhaehbaaPAllx8
import Derived.Test.YthenkaklhaehbaaPAllx11
import Derived.Test.YthenkaklhaehbaaPAllx14
namespace Go.Proofs.Ythenkaklhaehbaa.PAll
open Go.RowKit Go.Proofs.YthenkaklhaehbaaW.PrintWords Go.Proofs.YthenkaklhaehbaaW.PrintLast Go.Proofs.YthenkaklhaehbaaW.PrintMore
attribute [local go_sem] max2_int min2_int max_two min_two max_three min_three max_four min_four   -- for this text's walks alone
set_option linter.unusedVariables false
set_option linter.unusedSimpArgs false

/-! ### turnbucklelaw02_TagOwn: function 9 -/
def turnbucklelaw02_TagOwn.f (k : Nat) (a0 : Int) (l1 : List Int) : Option (Bool) := if l1.length ≤ 140737488351232 then (tag_Seal.f k a0 l1).bind fun x => (tag_Open.f k a0 x).bind fun _ => turnbucklelaw02_alive.f k else none
theorem turnbucklelaw02_TagOwn.mono : ∀ a0 a1 k, LeO (turnbucklelaw02_TagOwn.f k a0 a1) (turnbucklelaw02_TagOwn.f (k + 1) a0 a1) := by
  intro a0 a1 k
  unfold turnbucklelaw02_TagOwn.f
  exact LeO.ite (LeO.bind (tag_Seal.mono _ _ _) (fun _ => LeO.bind (tag_Open.mono _ _ _) (fun _ => turnbucklelaw02_alive.mono _))) (LeO.none _)
theorem turnbucklelaw02_TagOwn.same (x : List Int) : turnbuckleref01_Same.f x x = some true := by
  unfold turnbuckleref01_Same.f
  simp
set_option maxHeartbeats 4000000 in
set_option maxRecDepth 100000 in
theorem turnbucklelaw02_TagOwn.calls (k : Nat) (a0 : Int) (A0 : Option Addr) (c0 : Nat) (l0 : List Int) (r : Bool) (w : World) (hr0 : Kd.C (Kd.int .u8) w A0 l0.length l0) (hc0 : l0.length ≤ c0) (h : turnbucklelaw02_TagOwn.f k a0 l0 = some r) :
    Calls Try.prog 9 #[.int .u64 a0, .slice A0 l0.length c0] w fun e w' => e = .returned (.bool r) ∧ Below w.heap.size w w' := by
  unfold turnbucklelaw02_TagOwn.f at h
  by_cases hnl : ¬ l0.length ≤ 140737488351232
  · rw [if_neg hnl] at h; cases h
  have hl : l0.length ≤ 140737488351232 := by omega
  rw [if_pos hl] at h
  obtain ⟨x, hx, h⟩ := Option.bind_eq_some_iff.mp h
  obtain ⟨⟨y, ye⟩, hy, ha⟩ := Option.bind_eq_some_iff.mp h
  clear h
  have HX := Aside0.mk hx
  have HY := Aside0.mk hy
  have HA := Aside0.mk ha
  have HR := Aside0.mk hr0
  have HC := Aside0.mk hc0
  obtain ⟨N, hN⟩ : ∃ N : Nat, l0.length + 12 = N := ⟨_, rfl⟩
  have hadd : IntKind.i64.wrap ((l0.length : Int) + 12) = (N : Int) := (i64_w _).trans (by unfold wrap64; omega)
  have hN1 : l0.length ≤ N := by omega
  have hN2 : N ≤ 140737488355328 := by omega
  obtain ⟨i0, hi0, hz0, hsz0, hby0⟩ := info_parts info5
  have hmk : ∀ W : World, (Instr.makeSlice 23 (.int .i64 0) (.int .i64 (N : Int))).run Try.prog W = .ok (.slice (some ⟨W.heap.size, 0, none⟩) 0 N) (W.alloc (.cells (List.replicate N (Value.int .u8 0)).toArray 5)) := fun W => by
    have := run_make (P := Try.prog) W 23 5 i0 (.int .u8 0) Try.underlying23 hi0 hz0 .i64 .i64 0 (N : Int) (by omega) (by omega) (by rw [hby0]; omega) (by omega)
    rw [this, hsz0, Int.toNat_natCast, Nat.mul_one]
    exact congrArg (fun c => Result.ok _ (W.alloc (.cells c _))) (Go.Proofs.YthenkaklhaehbaaW.Aid.madeZeros N)
  have hcv1 := Kd.C_string (P := Try.prog) (A := A0) (c := c0) Try.underlying23 Try.underlying5 Try.underlying9 hr0
  have HN := Aside0.mk (And.intro hN1 (And.intro hN2 hN))
  have HI := Aside0.mk (And.intro hi0 hsz0)
  clear hx hy ha hr0 hc0 hl hN1 hN2 hi0 hz0 hsz0 hby0 hN
  go_enter Try.func9, Try.ntmps9
  go_wp2_with (first | ((with_reducible refine gate_builtin (b := .append) (xs := #[.tmp 22, .tmp 23]) rfl ?_); at_builtin; refine Go.Proofs.YthenkaklhaehbaaW.Aid.wpList_append_made _ rfl (.tmp 22) (.tmp 23) 23 rfl 5 i0 Try.underlying23 HI.out.1 HI.out.2 (w.heap.size) N (by have := HN.out; omega) (by simpa using Go.Proofs.YthenkaklhaehbaaW.Aid.heap_new w _) A0 c0 l0 rfl rfl (Kd.C_alloc HR.out _) HN.out.1 ?_; intro w1 hC1 hB1 hs1; have HC1 := Aside0.mk hC1; have HB1 := Aside0.mk hB1; clear hC1 hB1 hs1 hcv1; have HBW := Aside0.mk (HB1.out w.heap.size w (Nat.le_refl _) (below_alloc (Below.refl _ _) _)); clear HB1))
  have HCc : Aside0 (Kd.C (Kd.int .u8) w1 (some ⟨w.heap.size, 0, none⟩) l0.length l0) := ⟨by
    have h1 : (l0 ++ List.replicate (N - l0.length) (0 : Int)).length = N := by have := HN.out; simp; omega
    have h2 := HC1.out
    have h3 : (l0 ++ List.replicate (N - l0.length) (0 : Int)).take l0.length = l0 := List.take_left
    rw [show Kd.C (Kd.int .u8) w1 (some ⟨w.heap.size, 0, none⟩) N (l0 ++ List.replicate (N - l0.length) 0) = Kd.C (Kd.int .u8) w1 (some ⟨w.heap.size, 0, none⟩) (l0 ++ List.replicate (N - l0.length) (0 : Int)).length (l0 ++ List.replicate (N - l0.length) 0) from by rw [h1]] at h2
    have h4 := Kd.C_take (m := l0.length) h2 (by rw [h1]; exact HN.out.1)
    rw [h3] at h4
    exact h4⟩
  go_at_call 16
  refine (tag_Seal.calls k a0 _ _ l0 x _ ?s1 ?s2 HX.out).mono ?_
  case s1 => exact HCc.out
  case s2 => exact HN.out.1
  rintro e w2 ⟨v0, rfl, hro, hb2⟩
  have HO := Aside0.mk hro
  have HB2 := Aside0.mk hb2
  obtain ⟨Ao, co, eo⟩ := Kd.R_slice HO.out
  subst eo
  clear hro hb2
  have hx63 : Aside0 (x.length ≤ 9223372036854775807) := ⟨(Kd.R_reads' HO.out).2.2.2.1⟩
  go_wp2_with fail
  refine (tag_Open.calls k a0 _ _ x y ye _ ?s3 ?s4 HY.out).mono ?_
  case s3 => exact (Kd.R_reads' HO.out).2.2
  case s4 => exact (Kd.R_reads' HO.out).2.1
  rintro e w3 ⟨v0, rfl, hro, hb3⟩
  have HP := Aside0.mk hro
  have HB3 := Aside0.mk hb3
  obtain ⟨Ay, cy, ey⟩ := Kd.R_slice HP.out
  subst ey
  clear hro hb3
  have hy63 : Aside0 (y.length ≤ 9223372036854775807) := ⟨(Kd.R_reads' HP.out).2.2.2.1⟩
  go_wp2
  go_loopg [10, 36] y.length (fun kq v10 v36 w' => ∃ (ys : List Int) (j : Int), v36 = .int .i64 j ∧ Aside0 (0 ≤ j ∧ j ≤ y.length ∧ kq = (y.length - j).toNat ∧ ys.length = y.length) ∧ Aside0 (Kd.R (Kd.int .u8) 5 w' w2.heap.size (fun _ => True) (.slice Ay y.length cy) ys) ∧ Aside0 (Below w2.heap.size w2 w'))
  case atStart => exact ⟨y, 0, rfl, ⟨by omega, by omega, by omega, rfl⟩, HP, HB3⟩
  case round =>
    obtain ⟨ys, j, rfl, HJ, HXs, HBj⟩ := hrel
    have J := HJ.out
    by_cases hj : j < (y.length : Int)
    · have hjb : decide (j < (y.length : Int)) = true := decide_eq_true hj
      obtain ⟨g, cap, ev, hbg, hlt, cells, hcl⟩ := Kd.R_form HXs.out (by omega)
      injection ev with eA eL eC
      subst eA
      obtain ⟨hc1, hf1⟩ := Kd.R_celln (0 : Int) HXs.out j J.1 hj
      have HG := Aside0.mk hbg
      have HQ := Aside0.mk hj
      have p1 := eq_true J.1
      have q1 := eq_true hj
      clear hbg hlt hcl eL eC J hj
      go_wp2
      have JJ := HJ.out
      have hinc : wrap64 (j + 1) = j + 1 := by have := hy63.out; have := HQ.out; unfold wrap64; omega
      go_roundg (gk - 1)
      case measure => have := HQ.out; omega
      case rel => exact ⟨ys.set j.toNat (Go.bits .xor .u8 (rdOf 0 ys j) 255), wrap64 (j + 1), rfl, ⟨by rw [hinc]; have := HQ.out; omega, by rw [hinc]; have := HQ.out; omega, by rw [hinc]; have := HQ.out; omega, by rw [List.length_set]; exact JJ.2.2.2⟩, ⟨Kd.R_putn HXs.out j _⟩, ⟨below_set HBj.out HG.out⟩⟩
    · have hjb : decide (j < (y.length : Int)) = false := decide_eq_false hj
      clear J hj
      have HXr := Aside0.mk (Kd.R_below HO.out HBj.out)
      have HBr := Aside0.mk (below_step HB2.out HBj.out)
      have HCb := Aside0.mk (Kd.C_below HR.out (below_step HBW.out HBr.out))
      clear HXs HBj
      go_wp2_with fail
      refine (tag_Seal.calls k a0 _ _ l0 x _ ?s5 ?s6 HX.out).mono ?_
      case s5 => exact HCb.out
      case s6 => exact HC.out
      rintro e w4 ⟨v0, rfl, hro, hb4⟩
      have HZ := Aside0.mk hro
      obtain ⟨Az, cz, ez⟩ := Kd.R_slice HZ.out
      subst ez
      have HX4 := Aside0.mk (Kd.R_below HXr.out hb4)
      have HB4 := Aside0.mk (below_step HBr.out hb4)
      clear hro hb4 HXr HBr HCb HJ
      go_wp2_with fail
      refine (turnbuckleref01_Same.calls _ _ x _ _ x true _ ?s7 ?s8 ?s9 ?s10 (turnbucklelaw02_TagOwn.same x)).mono ?_
      case s7 => exact (Kd.R_reads' HX4.out).2.2
      case s8 => exact (Kd.R_reads' HX4.out).2.1
      case s9 => exact (Kd.R_reads' HZ.out).2.2
      case s10 => exact (Kd.R_reads' HZ.out).2.1
      rintro e w5 ⟨rfl, hd5⟩
      obtain ⟨nd, hd5⟩ := hd5
      have HX5 : Aside0 (Kd.R (Kd.int .u8) 5 w5 w1.heap.size (fun _ => True) (.slice Ao x.length co) x) := ⟨by rw [hd5]; exact Kd.R_drewN HX4.out nd⟩
      have HB5 : Aside0 (Below w1.heap.size w1 w5) := ⟨by rw [hd5]; exact pw_below_drewN HB4.out nd⟩
      clear hd5 HX4 HB4
      go_wp2
      go_loopg [13, 54] x.length (fun kq v13 v54 w' => ∃ (xs : List Int) (j : Int), v54 = .int .i64 j ∧ Aside0 (0 ≤ j ∧ j ≤ x.length ∧ kq = (x.length - j).toNat ∧ xs.length = x.length) ∧ Aside0 (Kd.R (Kd.int .u8) 5 w' w1.heap.size (fun _ => True) (.slice Ao x.length co) xs) ∧ Aside0 (Below w1.heap.size w1 w'))
      case atStart => exact ⟨x, 0, rfl, ⟨by omega, by omega, by omega, rfl⟩, HX5, HB5⟩
      case round =>
        obtain ⟨xs, j, rfl, HJ, HXs, HBj⟩ := hrel
        have J := HJ.out
        by_cases hj : j < (x.length : Int)
        · have hjb : decide (j < (x.length : Int)) = true := decide_eq_true hj
          obtain ⟨g, cap, ev, hbg, hlt, cells, hcl⟩ := Kd.R_form HXs.out (by omega)
          injection ev with eA eL eC
          subst eA
          obtain ⟨hc1, hf1⟩ := Kd.R_celln (0 : Int) HXs.out j J.1 hj
          have HG := Aside0.mk hbg
          have HQ := Aside0.mk hj
          have p1 := eq_true J.1
          have q1 := eq_true hj
          clear hbg hlt hcl eL eC J hj
          go_wp2
          have JJ := HJ.out
          have hinc : wrap64 (j + 1) = j + 1 := by have := hx63.out; have := HQ.out; unfold wrap64; omega
          go_roundg (gk - 1)
          case measure => have := HQ.out; omega
          case rel => exact ⟨xs.set j.toNat (Go.bits .xor .u8 (rdOf 0 xs j) 255), wrap64 (j + 1), rfl, ⟨by rw [hinc]; have := HQ.out; omega, by rw [hinc]; have := HQ.out; omega, by rw [hinc]; have := HQ.out; omega, by rw [List.length_set]; exact JJ.2.2.2⟩, ⟨Kd.R_putn HXs.out j _⟩, ⟨below_set HBj.out HG.out⟩⟩
        · have hjb : decide (j < (x.length : Int)) = false := decide_eq_false hj
          clear J hj
          have g1 := eq_true HN.out.1
          have g2 : (N = l0.length) = False := eq_false (by have := HN.out.2.2; omega)
          have g3 : N - l0.length = 12 := by have := HN.out.2.2; omega
          go_wp2
          go_loopg [12, 16, 74] 12 (fun kq v12 v16 v74 w' => ∃ i : Int, v12 = .bool true ∧ v74 = .int .i64 i ∧ Aside0 (0 ≤ i ∧ i ≤ 12 ∧ kq = (12 - i).toNat) ∧ w' = wr)
          case atStart => exact ⟨0, rfl, rfl, ⟨by omega, by omega, by omega⟩, rfl⟩
          case round =>
            obtain ⟨i, rfl, rfl, HIi, rfl⟩ := hrel
            have HCf := Kd.C_below HC1.out HBj.out
            have I := HIi.out
            by_cases hi : i < 12
            · have hib : decide (i < 12) = true := decide_eq_true hi
              have hcell : wr.cell? ⟨w.heap.size, l0.length + i.toNat, none⟩ = some (.int .u8 0) := by
                have hn12 := HN.out.2.2
                obtain ⟨ad, e, hx⟩ := Kd.at_int HCf ((l0.length : Int) + i) (by omega) (by omega)
                cases e
                have e1 : (⟨w.heap.size, 0, none⟩ : Addr).add ((l0.length : Int) + i).toNat = ⟨w.heap.size, l0.length + i.toNat, none⟩ := by
                  rw [Addr.add_lit, show ((l0.length : Int) + i).toNat = l0.length + i.toNat from by omega, Nat.zero_add]
                have e2 : rd (l0 ++ List.replicate (N - l0.length) 0) ((l0.length : Int) + i) = 0 := by
                  unfold rd
                  rw [show ((l0.length : Int) + i).toNat = l0.length + i.toNat from by omega, List.getD_eq_getElem?_getD, List.getElem?_append_right (Nat.le_add_right _ _), Nat.add_sub_cancel_left, List.getElem?_replicate, if_pos (by omega)]
                  rfl
                rw [e1, e2] at hx
                exact hx
              have i1 := eq_true I.1
              have i2 := eq_true hi
              have HQi := Aside0.mk hi
              clear I hi HCf
              go_wp2
              have II := HIi.out
              have hinc : wrap64 (i + 1) = i + 1 := by unfold wrap64; omega
              go_roundg (gk - 1)
              case measure => have := HQi.out; omega
              case rel => exact ⟨wrap64 (i + 1), rfl, rfl, ⟨by rw [hinc]; have := HQi.out; omega, by rw [hinc]; have := HQi.out; omega, by rw [hinc]; have := HQi.out; omega⟩, rfl⟩
            · have hib : decide (i < 12) = false := decide_eq_false hi
              have hcvc := Kd.C_string (P := Try.prog) (A := some ⟨w.heap.size, 0, none⟩) (c := N) Try.underlying23 Try.underlying5 Try.underlying9 (Kd.C_below HCc.out HBj.out)
              have hcvb := Kd.C_string (P := Try.prog) (A := A0) (c := c0) Try.underlying23 Try.underlying5 Try.underlying9 (Kd.C_below HR.out (below_step HBW.out HBj.out))
              clear I hi HCf
              go_wp2_with (go_at_call 12; (with_reducible refine (turnbucklelaw02_alive.calls k r _ HA.out).mono ?_); rintro e w9 ⟨rfl, hb9⟩; have HB9 := Aside0.mk hb9; clear hb9)
              go_ret
              exact ⟨rfl, below_step (below_step HBW.out HBj.out) HB9.out⟩
/-- The one plain statement of turnbucklelaw02_TagOwn. -/
def turnbucklelaw02_TagOwn.Pure : Prop := ∀ (a0 : Int) (l1 : List Int), (Lit.int .u64 a0).wf = true → l1.length ≤ maxLen → l1.length * 1 ≤ 140737488351232 → (∀ y ∈ l1, (Lit.int .u8 y).wf = true) → ∃ k, turnbucklelaw02_TagOwn.f k a0 l1 = some true

end Go.Proofs.Ythenkaklhaehbaa.PAll
