import Derived.Test.YtcbpgbfbffnogaaGreatzRx32
import Derived.Defers
import Derived.Recover
namespace Go.Proofs.YtcbpgbfbffnogaaGreatW.Rx
open Go Go.RowKit
set_option linter.unusedVariables false
section
variable {α : Type} {P : Program} {Q : Ending → World → Prop} {pin : List (Nat × Nat)} {J : Jt} {Lu : Nat → Prop} {wu : World}
theorem ok_boxW {R : FRow α} {x : α} {t : TypeId} {v : Value} {k : Tup [Lf.p] → XT} (hv : v.cells.toList = R.enc x)
  (hk : ∀ a L w, OwnO wu.heap.size L w t R a 1 [x] → Fine Lu wu L w → (∀ b, L b → b < w.heap.size) → (∀ b, blk (a, 0, 0) b → wu.heap.size ≤ b) → (k (a, ())).ok P pin Q J L w) : (XT.sem (Instr.box t v) [Lf.p] Sh.one k).ok P pin Q J Lu wu := by
 refine ok_semm (fun L w hF hlt => ⟨(some ⟨w.heap.size, 0, none⟩, ()), w.alloc (.cells v.cells t), rfl, keeps_below hlt ((Below.refl w.heap.size w).alloc (Nat.le_refl _) _), ?_⟩)
 have hG0 : Fine L w L (w.alloc (.cells v.cells t)) := (Fine.refl L w).step ((Below.refl w.heap.size w).alloc (Nat.le_refl _) _)
 have hsz : (w.alloc (.cells v.cells t)).heap.size = w.heap.size + 1 := by simp
 have hlen : v.cells.size = R.n := by rw [← Array.length_toList, hv]; exact R.len x
 refine hk (some ⟨w.heap.size, 0, none⟩) L _ (Or.inr ⟨w.heap.size, 0, v.cells, rfl, hF.size, ⟨by omega, fun hl => Nat.lt_irrefl _ (hlt _ hl)⟩, Array.getElem?_push_size, Nat.le_refl _, by simp [maxLen], by omega, ?_⟩) (hF.trans hG0) (fun b hb => by have := hlt b hb; omega) ?_
 ·rw [List.drop_zero, hv]
  simp only [List.length_cons, List.length_nil, Nat.zero_add, Nat.one_mul, List.flatMap_cons, List.flatMap_nil, List.append_nil]
  exact List.take_of_length_le (by rw [R.len]; exact Nat.le_refl _)
 ·rintro b ⟨ad, ha, rfl⟩
  cases ha
  exact hF.size
variable {S : Nat → Prop} {w0 : World}
end
section
variable {P : Program} {R : Ending → World → Prop} {w : World}
def endX (e : XE) : XT := match e with
 | .exit _ => .bad "exit"
 | _ => .done (.tup []) []
theorem wp_at (hm : P.follows .mixedOrders = true) {c : Code} {n lo : Nat} (A : Nat → LA) (C : Nat → Option LA) (args : List AV) {ds : List Deferred}
  (hN : Nat.ble args.length n = true) (hwa : AV.wfs (fun _ => false) args = true)
  (h : Fine (fun _ => False) w (fun _ => False) w → (X P ⟨n, lo⟩ A C (codeKeys c) [] (drawX P ⟨n, lo⟩) c 0 (startX args n []) (fun e _ => endX e)).ok P [] R noJ (fun _ => False) w) :
  c.wp P (fun e a' w' => ((e = .normal ∨ e = .ret) ∧ Held ⟨ds, fun j => ((AV.gs id args).toArray ++ Array.replicate (n - args.length) undef).getD j undef⟩ ⟨n, lo⟩ a' ∧ R (.returned (.tuple #[])) w') ∨ ∃ ps, e = .panic ps ∧ Held ⟨ds, fun j => ((AV.gs id args).toArray ++ Array.replicate (n - args.length) undef).getD j undef⟩ ⟨n, lo⟩ a' ∧ R (.panicked ps) w')
   { tmps := (AV.gs id args).toArray ++ Array.replicate (n - args.length) undef, defers := ds } w := by
 have hN := Nat.le_of_ble_eq_true hN
 obtain ⟨fx, hfx⟩ : ∃ fx : Fx, fx = ⟨ds, fun j => ((AV.gs id args).toArray ++ Array.replicate (n - args.length) undef).getD j undef⟩ := ⟨_, rfl⟩
 have hD : ∀ k, (startX args n []).D k = false := fun k => rfl
 have hrel : Rel fx ⟨n, lo⟩ id (startX args n []) { tmps := (AV.gs id args).toArray ++ Array.replicate (n - args.length) undef, defers := ds } w := by
  refine ⟨(by simp [gs_len]; omega), ?_, ?_, fun k c T hb => (by cases hb), fun k c T hb => (by cases hb), fun k k' hk => (by rw [hD] at hk; cases hk), (by rw [hfx]), fun j hj => (by rw [hfx])⟩
  ·intro j x hx
   simp only [startX] at hx
   split at hx
   ·rename_i y hy
    cases hx
    have hj := (List.getElem?_eq_some_iff.1 hy).1
    have hg := gs_get (ρ := id) _ _ _ hy
    have hj' : j < (AV.gs id args).length := by rw [gs_len]; exact hj
    rw [Array.getD_eq_getD_getElem?, Array.getElem?_append_left (by simpa using hj')]
    simp [hg]
   ·rename_i hn
    split at hx
    ·cases hx
     have hj : args.length ≤ j := by simpa using hn
     rw [Array.getD_eq_getD_getElem?, Array.getElem?_append_right (by simpa [gs_len] using hj)]
     simp only [Array.getElem?_replicate, AV.g]
     split <;> rfl
    ·cases hx
  ·intro j x hx
   simp only [startX] at hx
   split at hx
   ·rename_i y hy
    cases hx
    exact wfs_get _ _ _ hy hwa
   ·split at hx
    ·cases hx; rfl
    ·cases hx
 have hinv : Inv fx P [] R ⟨n, lo⟩ (startX args n []) (X P ⟨n, lo⟩ A C (codeKeys c) [] (drawX P ⟨n, lo⟩) c 0 (startX args n []) (fun e _ => endX e)) noJ { tmps := (AV.gs id args).toArray ++ Array.replicate (n - args.length) undef, defers := ds } w :=
  ⟨id, fun _ => False, fun _ => False, w, h ⟨rfl, rfl, rfl, Nat.le_refl _, fun _ _ _ => rfl, fun _ h => h.elim⟩, hrel, fun k hk => (by rw [hD] at hk; cases hk), Ext.refl (fun _ h => h.elim), fun q hq => (by cases hq), fun q hq => (by cases hq)⟩
 rw [← hfx]
 refine wp_mono (X_ok (ds := fx) (fun id ops s k J a w h => draw_ok hm id ops s k J a w h) (fun base ops s k p h => drawX_loc base ops s k p h) (fun q hq => (by cases hq)) c 0 _ _ _ _ _ ?_ hinv) ?_
 ·intro e s'
  cases e <;> trivial
 ·rintro e a' w' (⟨e', s', rfl, hw, ρ', L, Lu, wu, hok, hrel', hL, hext, hpin', hpd⟩ | ⟨ps, rfl, hR⟩)
  case inr => exact Or.inr ⟨ps, rfl, hR⟩
  cases e' with
  | norm => exact Or.inl ⟨Or.inl rfl, hrel'.defers, hok ρ' L w' hpin' hext trivial trivial⟩
  | ret => exact Or.inl ⟨Or.inr rfl, hrel'.defers, hok ρ' L w' hpin' hext trivial trivial⟩
  | exit i => exact hok.elim
end
end Go.Proofs.YtcbpgbfbffnogaaGreatW.Rx
