/- Spans: in any order: the statement's walk. Printed by wip/spans/so.py. -/
import Derived.Test.YtnfaneojdfjepaaSr2
import Derived.Test.YtnfaneojdfjepaaWLast
import Derived.Test.YtnfaneojdfjepaaWMore
import Derived.Test.YtnfaneojdfjepaaWTab
import Derived.Test.YtnfaneojdfjepaaAid
import Derived.Test.YtnfaneojdfjepaaAid2
namespace Go.Proofs.Ytnfaneojdfjepaa.X
open Go Go.RowKit Go.Proofs.YtnfaneojdfjepaaW.Rx Go.Proofs.YtnfaneojdfjepaaW.PrintWords Go.Proofs.YtnfaneojdfjepaaW.PrintLast Go.Proofs.YtnfaneojdfjepaaW.PrintMore
set_option linter.unusedVariables false
set_option linter.unusedSimpArgs false
theorem alive_calls (w : World) : Calls Try.prog 16 #[] w fun e w' => e = .returned (.bool true) ∧ Below w.heap.size w w' := law05_alive.c 300 true (alive_F (by omega)) w
theorem add_calls (k : Nat) {A : Option Addr} {c : Nat} {l : Sps} (a b : Int) {r : Sps × Int} (h : spans_Add.F k l a b = some r) (w : World) (hS : SlR R22.row (fun _ => False) w A c l) : Calls Try.prog 17 #[.slice A l.length c, .int .i64 a, .int .i64 b] w fun e w' => ∃ (B : Option Addr) (d : Nat), e = .returned (.tuple #[.slice B r.1.length d, .int .i64 r.2]) ∧ Below w.heap.size w w' ∧ OwnF w.heap.size (fun b => b < w.heap.size) w' 30 R22 B d r.1 :=
  spans_Add.c k A _ c l a b r h rfl w hS
theorem same_calls (k : Nat) {A A1 : Option Addr} {c c1 : Nat} {l l1 : Sps} {r : Bool} (h : ref05_Same.F k l l1 = some r) (w : World) (hS : SlR R22.row (fun _ => False) w A c l) (hS1 : SlR R22.row (fun _ => False) w A1 c1 l1) : Calls Try.prog 18 #[.slice A l.length c, .slice A1 l1.length c1] w fun e w' => e = .returned (.bool r) ∧ Below w.heap.size w w' :=
  ref05_Same.c k A _ c l A1 _ c1 l1 r h rfl rfl w hS hS1
theorem right_calls (k : Nat) {A : Option Addr} {c : Nat} {l : Sps} {r : Bool} (h : ref05_Right.F k l = some r) (w : World) (hS : SlR R22.row (fun _ => False) w A c l) : Calls Try.prog 11 #[.slice A l.length c] w fun e w' => e = .returned (.bool r) ∧ Below w.heap.size w w' :=
  ref05_Right.c k A _ c l r h rfl w hS
theorem SlR.cells {L : Nat → Prop} {w : World} {ad : Addr} {c : Nat} {l : Sps} {i : Nat} {x : Int × Int} (h : SlR R22.row L w (some ad) c l) (hx : l[i]? = some x) : w.cell? (ad.add (i * 2)) = some (.int .i64 x.1) ∧ w.cell? ⟨(ad.add (i * 2)).block, (ad.add (i * 2)).off + 1, none⟩ = some (.int .i64 x.2) := by
  obtain ⟨⟨cs, h1, h2⟩, _⟩ := h
  obtain ⟨a, ha, hg⟩ := h2.get hx
  have ha : a = [.int .i64 x.1, .int .i64 x.2] := ha
  subst ha
  obtain ⟨ad1, e1, hc1, _⟩ := h1 _ _ (hg 0 _ rfl)
  obtain ⟨ad2, e2, hc2, _⟩ := h1 _ _ (hg 1 _ rfl)
  cases e1; cases e2
  refine ⟨hc1, ?_⟩
  have e : ad.add (i * 2 + 1) = ⟨(ad.add (i * 2)).block, (ad.add (i * 2)).off + 1, none⟩ := by
    cases ad with
    | mk b off sp =>
      unfold Addr.add
      rw [if_neg (by omega)]
      by_cases hm : i * 2 = 0
      · rw [if_pos hm, hm]
      · rw [if_neg hm]; rfl
  rw [← e]; exact hc2
theorem SlR.step {w w' : World} {A : Option Addr} {c : Nat} {l : Sps} (h : SlR R22.row (fun _ => False) w A c l) (hb : Below w.heap.size w w') : SlR R22.row (fun _ => False) w' A c l := h.later ((Fine.refl _ _).step hb)
/-- The two boxes' own blocks. -/
def Bx (w : World) (b : Nat) : Prop := b = w.heap.size ∨ b = w.heap.size + 1
/-- What the two boxes hold. -/
def OInv (w : World) (la lb : Sps) (w' : World) : Prop := ∃ (A1 : Option Addr) (c1 : Nat) (A2 : Option Addr) (c2 : Nat), (w'.cell? ⟨w.heap.size, 0, none⟩ = some (.slice A1 la.length c1) ∧ w'.cell? ⟨w.heap.size + 1, 0, none⟩ = some (.slice A2 lb.length c2)) ∧ (w'.frozen? ⟨w.heap.size, 0, none⟩ = false ∧ w'.frozen? ⟨w.heap.size + 1, 0, none⟩ = false) ∧ (SlR R22.row (Bx w) w' A1 c1 la ∧ SlR R22.row (Bx w) w' A2 c2 lb) ∧ Below w.heap.size w w' ∧ w.heap.size + 1 < w'.heap.size
theorem OInv.below {w w' : World} {la lb : Sps} (h : OInv w la lb w') : Below w.heap.size w w' := by
  obtain ⟨_, _, _, _, _, _, _, h, _⟩ := h; exact h
theorem OInv.size {w w' : World} {la lb : Sps} (h : OInv w la lb w') : w.heap.size + 1 < w'.heap.size := by
  obtain ⟨_, _, _, _, _, _, _, _, h⟩ := h; exact h
theorem OInv.start (w : World) (e : Nat) : OInv w [] [] ((w.alloc (.cells #[.slice none 0 0] e)).alloc (.cells #[.slice none 0 0] e)) := by
  have hg : ((w.alloc (.cells #[.slice none 0 0] e)).alloc (.cells #[.slice none 0 0] e)).heap[w.heap.size]? = some (.cells #[.slice none 0 0] e) := by
    show ((w.heap.push _).push _)[_]? = _
    rw [Array.getElem?_push, if_neg (by simp), Array.getElem?_push, if_pos rfl]
  have hg2 := Go.Proofs.YtnfaneojdfjepaaW.Aid.heap_new2 w (.cells #[.slice none 0 0] e) (.cells #[.slice none 0 0] e)
  have hb := below_alloc (below_alloc (Below.refl w.heap.size w) (.cells #[.slice none 0 0] e)) (.cells #[.slice none 0 0] e)
  have hs : w.heap.size + 1 < ((w.alloc (.cells #[.slice none 0 0] e)).alloc (.cells #[.slice none 0 0] e)).heap.size := by show _ < ((w.heap.push _).push _).size; simp
  generalize (w.alloc (.cells #[.slice none 0 0] e)).alloc (.cells #[.slice none 0 0] e) = W at hg hg2 hb hs ⊢
  refine ⟨none, 0, none, 0, ⟨(blk_cell hg 0).trans rfl, (blk_cell hg2 0).trans rfl⟩, ⟨?_, ?_⟩, ⟨SlR.nil, SlR.nil⟩, hb, hs⟩
  · simp [World.frozen?, hg]
  · simp [World.frozen?, hg2]
theorem OInv.step {w w' w2 : World} {la lb : Sps} (h : OInv w la lb w') (hb : Below w'.heap.size w' w2) : OInv w la lb w2 := by
  obtain ⟨A1, c1, A2, c2, ⟨h1, h2⟩, ⟨h3, h4⟩, ⟨h5, h6⟩, h7, h8⟩ := h
  have hF := (Fine.refl (Bx w) w').step hb
  exact ⟨A1, c1, A2, c2, ⟨(hb.cell (by show w.heap.size < _; omega)).trans h1, (hb.cell (by show w.heap.size + 1 < _; omega)).trans h2⟩, ⟨(hb.frozen (by show w.heap.size < _; omega)).trans h3, (hb.frozen (by show w.heap.size + 1 < _; omega)).trans h4⟩, ⟨h5.later hF, h6.later hF⟩, below_step h7 hb, Nat.lt_of_lt_of_le h8 hb.size⟩
theorem set_fine {w w' : World} {g : Nat} (hg : Bx w g) (v : Value) : Fine (Bx w) w' (Bx w) (w'.setCell ⟨g, 0, none⟩ v) :=
  ⟨rfl, rfl, rfl, by simp [World.setCell], fun k hk hL => Below.heap_setCell _ _ _ _ (fun h => hL (by rw [h]; exact hg)), fun _ h => Or.inl h⟩
theorem cell_set {w' : World} {g : Nat} {u v : Value} (h : w'.cell? ⟨g, 0, none⟩ = some u) : (w'.setCell ⟨g, 0, none⟩ v).cell? ⟨g, 0, none⟩ = some v := by
  have := World.cell?_setCells_in g [v] 0 w' (fun q hq => by simp at hq; subst hq; rw [h]; rfl) 0 (by simp)
  exact this
theorem cell_off {w' : World} {g : Nat} {v : Value} {p : Addr} (h : p.block ≠ g) : (w'.setCell ⟨g, 0, none⟩ v).cell? p = w'.cell? p := World.cell?_of_block (w := w') (Below.heap_setCell w' ⟨g, 0, none⟩ v p.block h)
theorem frozen_off {w' : World} {g : Nat} {v : Value} {p : Addr} (h : p.block ≠ g) : (w'.setCell ⟨g, 0, none⟩ v).frozen? p = w'.frozen? p := World.frozen?_of_block (w := w') (Below.heap_setCell w' ⟨g, 0, none⟩ v p.block h)
theorem OInv.put1 {w w' : World} {la lb s : Sps} {B : Option Addr} {d : Nat} (h : OInv w la lb w') (hs : SlR R22.row (Bx w) w' B d s) : OInv w s lb (w'.setCell ⟨w.heap.size, 0, none⟩ (.slice B s.length d)) := by
  obtain ⟨A1, c1, A2, c2, ⟨h1, h2⟩, ⟨h3, h4⟩, ⟨h5, h6⟩, h7, h8⟩ := h
  have hF := set_fine (w := w) (w' := w') (Or.inl rfl) (.slice B s.length d)
  refine ⟨B, d, A2, c2, ⟨cell_set h1, (cell_off (by show w.heap.size + 1 ≠ _; omega)).trans h2⟩, ⟨?_, (frozen_off (by show w.heap.size + 1 ≠ _; omega)).trans h4⟩, ⟨hs.later hF, h6.later hF⟩, below_set h7 (Nat.le_refl _), by simpa [World.setCell] using h8⟩
  exact (World.frozen?_setCell _ _ _ _).trans h3
theorem OInv.put2 {w w' : World} {la lb s : Sps} {B : Option Addr} {d : Nat} (h : OInv w la lb w') (hs : SlR R22.row (Bx w) w' B d s) : OInv w la s (w'.setCell ⟨w.heap.size + 1, 0, none⟩ (.slice B s.length d)) := by
  obtain ⟨A1, c1, A2, c2, ⟨h1, h2⟩, ⟨h3, h4⟩, ⟨h5, h6⟩, h7, h8⟩ := h
  have hF := set_fine (w := w) (w' := w') (Or.inr rfl) (.slice B s.length d)
  refine ⟨A1, c1, B, d, ⟨(cell_off (by show w.heap.size ≠ _; omega)).trans h1, cell_set h2⟩, ⟨(frozen_off (by show w.heap.size ≠ _; omega)).trans h3, ?_⟩, ⟨h5.later hF, hs.later hF⟩, below_set h7 (by omega), by simpa [World.setCell] using h8⟩
  exact (World.frozen?_setCell _ _ _ _).trans h4
def stp (la : Sps) (x : Int × Int) : Sps := match spans_Add.F 600 la x.1 x.2 with
  | some (y, e) => if e = 0 then y else la
  | none => la
def ostate (x y : Nat → Int × Int) : Nat → Sps × Sps
  | 0 => ([], [])
  | i + 1 => (stp (ostate x y i).1 (x i), stp (ostate x y i).2 (y i))
def inn (x y : Nat → Int × Int) (i : Nat) : Nat → Sps × Sps
  | 0 => ostate x y i
  | 1 => (stp (ostate x y i).1 (x i), (ostate x y i).2)
  | _ => ostate x y (i + 1)
theorem stp_add {la : Sps} (h : la.length ≤ 256) (x : Int × Int) : ∃ s e, spans_Add.F 600 la x.1 x.2 = some (s, e) ∧ s.length ≤ 256 ∧ (e = 0 → stp la x = s) ∧ (¬ e = 0 → stp la x = la) := by
  obtain ⟨s, e, h1, h2, _⟩ := addH (l := la) (a := x.1) (b := x.2) (n := 0) (k := 600) (by omega) (by omega)
  refine ⟨s, e, h1, h2, fun he => ?_, fun he => ?_⟩
  · unfold stp; rw [h1]; exact if_pos he
  · unfold stp; rw [h1]; exact if_neg he
theorem stp_len {la : Sps} (h : la.length ≤ 256) (x : Int × Int) : (stp la x).length ≤ 256 := by
  obtain ⟨s, e, _, h2, h3, h4⟩ := stp_add h x
  by_cases he : e = 0
  · rw [h3 he]; exact h2
  · rw [h4 he]; exact h
theorem ostate_len (x y : Nat → Int × Int) : ∀ i, (ostate x y i).1.length ≤ 256 ∧ (ostate x y i).2.length ≤ 256
  | 0 => ⟨by simp [ostate], by simp [ostate]⟩
  | i + 1 => ⟨stp_len (ostate_len x y i).1 _, stp_len (ostate_len x y i).2 _⟩
/-- The row of the two boxes' pointers. -/
def PInv (w : World) (p : Nat) (w' : World) : Prop := (w'.cell? ⟨p, 0, none⟩ = some (.pointer (some ⟨w.heap.size, 0, none⟩)) ∧ w'.cell? ⟨p, 1, none⟩ = some (.pointer (some ⟨w.heap.size + 1, 0, none⟩))) ∧ p < w'.heap.size ∧ w.heap.size + 1 < p
theorem PInv.step {w w' w2 : World} {p : Nat} (h : PInv w p w') (hb : Below w'.heap.size w' w2) : PInv w p w2 :=
  ⟨⟨(hb.cell h.2.1).trans h.1.1, (hb.cell h.2.1).trans h.1.2⟩, Nat.lt_of_lt_of_le h.2.1 hb.size, h.2.2⟩
theorem PInv.put {w w' : World} {p g : Nat} (h : PInv w p w') (hg : Bx w g) (v : Value) : PInv w p (w'.setCell ⟨g, 0, none⟩ v) := by
  obtain ⟨⟨h1, h2⟩, h3, h4⟩ := h
  have hne : p ≠ g := by unfold Bx at hg; omega
  exact ⟨⟨(cell_off hne).trans h1, (cell_off hne).trans h2⟩, by simpa [World.setCell] using h3, h4⟩
theorem PInv.start {w w' : World} {la lb : Sps} (h : OInv w la lb w') (e : Nat) : PInv w w'.heap.size (w'.alloc (.cells #[.pointer (some ⟨w.heap.size, 0, none⟩), .pointer (some ⟨w.heap.size + 1, 0, none⟩)] e)) := by
  have hg := Go.Proofs.YtnfaneojdfjepaaW.Aid.heap_new w' (.cells #[.pointer (some ⟨w.heap.size, 0, none⟩), .pointer (some ⟨w.heap.size + 1, 0, none⟩)] e)
  exact ⟨⟨(blk_cell hg 0).trans rfl, (blk_cell hg 1).trans rfl⟩, by show _ < (w'.heap.push _).size; simp, h.size⟩
def order.T : Bool × List (List Nat × List Nat) := (true, [([], []), ([0], [0]), ([1], [1]), ([], []), ([3], [3]), ([], []), ([5], [5]), ([2, 4, 6], [2, 4, 6]), ([7], [7]), ([8], [8]), ([8], [8]), ([9, 7, 0, 1, 2, 3, 4, 5, 6, 7, 8, 9], [9]), ([10, 11, 0, 1, 2, 3, 4, 5, 6, 7, 8, 9, 10, 11], [10])])
theorem order.tab : rtab .any (opsOf Try.f4 14) = order.T := by kernel_rfl
theorem order.ix {n i t m : Nat} {j : Int} (hn : 0 < n ∧ n ≤ 200) (ht : t < n) (hj : j = (i : Int)) (hi : i < n) (hm : m = (n - 1 - i + t) % n) : (wrap64 (wrap64 ((n : Int) - 1 - j) + (t : Int))).tmod (n : Int) = (m : Int) := by
  have e2 : wrap64 ((n : Int) - 1 - j) = (n : Int) - 1 - j := by unfold wrap64; omega
  have e3 : wrap64 ((n : Int) - 1 - j + (t : Int)) = ((n - 1 - i + t : Nat) : Int) := by unfold wrap64; omega
  rw [e2, e3, hm]
  exact (Int.ofNat_tmod _ _).symm
theorem order.tn (a1 : Int) {n : Nat} (hn : 0 < n ∧ n ≤ 200) : ∃ t : Nat, (wrap64 (a1.tmod (n : Int) + (n : Int))).tmod (n : Int) = (t : Int) ∧ t < n := by
  have h1 := Int.tmod_lt_of_pos a1 (show (0 : Int) < n by omega)
  have h2 : -(n : Int) < a1.tmod n := Int.lt_tmod_of_pos a1 (show (0 : Int) < n by omega)
  have e : wrap64 (a1.tmod (n : Int) + (n : Int)) = a1.tmod (n : Int) + (n : Int) := by unfold wrap64; omega
  rw [e]
  obtain ⟨u, hu⟩ : ∃ u : Nat, a1.tmod (n : Int) + (n : Int) = (u : Int) := ⟨(a1.tmod (n : Int) + (n : Int)).toNat, by omega⟩
  exact ⟨u % n, by rw [hu]; exact (Int.ofNat_tmod _ _).symm, Nat.mod_lt _ hn.1⟩
set_option maxHeartbeats 8000000 in
set_option maxRecDepth 100000 in
theorem order.calls (A : Option Addr) (c : Nat) (l : Sps) (a1 : Int) (w : World) (hS : SlR R22.row (fun _ => False) w A c l)
    (law : ∀ (t : Nat) (x y : Nat → Int × Int), 0 < l.length → l.length ≤ 200 → t < l.length → (∀ i, i < l.length → l[i]? = some (x i)) → (∀ i, i < l.length → l[(l.length - 1 - i + t) % l.length]? = some (y i)) → ref05_Same.F 600 (ostate x y l.length).1 (ostate x y l.length).2 = some true ∧ ref05_Right.F 600 (ostate x y l.length).1 = some true) :
    Calls Try.prog 4 #[.slice A l.length c, .int .i64 a1] w fun e w' => e = .returned (.bool true) ∧ Below w.heap.size w w' := by
  have HS := Aside0.mk hS
  have hl63 := hS.2.2
  clear hS
  by_cases c0 : (l.length : Int) = 0
  · have c0b : ((l.length : Int) == 0) = true := beq_iff_eq.mpr c0
    clear law
    go_enter Try.func4, Try.ntmps4
    go_wp2_with fail
    refine (alive_calls _).mono ?_
    rintro e w1 ⟨rfl, hb⟩
    have HB := Aside0.mk hb
    clear hb
    go_wp2
    go_ret
    exact ⟨rfl, HB.out⟩
  have c0b : ((l.length : Int) == 0) = false := beq_eq_false_iff_ne.mpr c0
  by_cases c1 : (200 : Int) < (l.length : Int)
  · have c1b : decide ((200 : Int) < (l.length : Int)) = true := decide_eq_true c1
    clear law
    go_enter Try.func4, Try.ntmps4
    go_wp2_with fail
    refine (alive_calls _).mono ?_
    rintro e w1 ⟨rfl, hb⟩
    have HB := Aside0.mk hb
    clear hb
    go_wp2
    go_ret
    exact ⟨rfl, HB.out⟩
  have c1b : decide ((200 : Int) < (l.length : Int)) = false := decide_eq_false c1
  have HL : Aside0 (0 < l.length ∧ l.length ≤ 200) := ⟨by omega, by omega⟩
  obtain ⟨ad, rfl⟩ : ∃ ad, A = some ad := Option.isSome_iff_exists.1 (HS.out.some HL.out.1)
  obtain ⟨t, hturn, ht⟩ := order.tn a1 HL.out
  obtain ⟨x, hx⟩ : ∃ x : Nat → Int × Int, ∀ i, i < l.length → l[i]? = some (x i) := ⟨fun i => l.getD i (0, 0), fun i hi => by simp [List.getD, hi]⟩
  obtain ⟨y, hy⟩ : ∃ y : Nat → Int × Int, ∀ i, i < l.length → l[(l.length - 1 - i + t) % l.length]? = some (y i) := ⟨fun i => l.getD ((l.length - 1 - i + t) % l.length) (0, 0), fun i hi => by simp [List.getD, Nat.mod_lt _ (show 0 < l.length by omega)]⟩
  obtain ⟨hsame, hright⟩ := law t x y HL.out.1 HL.out.2 ht hx hy
  have HT := Aside0.mk ht
  have HX := Aside0.mk hx
  have HY := Aside0.mk hy
  have HSm := Aside0.mk hsame
  have HRt := Aside0.mk hright
  clear ht hx hy law hsame hright
  go_enter Try.func4, Try.ntmps4
  go_wp2
  go_loopg [7, 8, 9, 10, 11, 12, 34] l.length (fun kq v7 v8 v9 v10 v11 v12 v34 w' => ∃ (i : Nat) (j : Int), v34 = .int .i64 j ∧ Aside0 (j = (i : Int) ∧ i ≤ l.length ∧ kq = l.length - i) ∧ Aside0 (OInv w (ostate x y i).1 (ostate x y i).2 w'))
  case atStart => exact ⟨0, 0, rfl, ⟨rfl, by omega, by omega⟩, ⟨OInv.start _ _⟩⟩
  case round =>
    obtain ⟨i, j, rfl, HI, HO⟩ := hrel
    by_cases hj : j < (l.length : Int)
    · have hjb : decide (j < (l.length : Int)) = true := decide_eq_true hj
      have HQ := Aside0.mk hj
      have HGK : Aside0 (gk = l.length - i) := ⟨HI.out.2.2⟩
      clear hj
      go_wp2
      obtain ⟨p, hp⟩ : ∃ p, p = wr.heap.size := ⟨_, rfl⟩
      go_loopg [8, 9, 10, 11, 12, 39] 2 (fun kq v8 v9 v10 v11 v12 v39 w' => ∃ (q : Nat) (z : Int), v39 = .int .i64 z ∧ Aside0 (z = (q : Int) ∧ q ≤ 2 ∧ kq = 2 - q) ∧ Aside0 (OInv w (inn x y i q).1 (inn x y i q).2 w') ∧ Aside0 (PInv w p w'))
      case atStart => exact ⟨0, 0, rfl, ⟨rfl, by omega, by omega⟩, ⟨HO.out.step (below_alloc (Below.refl _ _) _)⟩, ⟨by rw [hp]; exact PInv.start HO.out _⟩⟩
      case round =>
        subst hp
        obtain ⟨q, z, rfl, HZ, HO2, HP⟩ := hrel
        match q, HZ, HO2 with
        | 0, HZ, HO2 =>
          obtain rfl : z = 0 := HZ.out.1
          obtain ⟨⟨hp0, hp1⟩, _⟩ := HP.out
          clear hp1
          have p1 : (0 ≤ j) = True := eq_true (by have := HI.out; omega)
          have q1 := eq_true HQ.out
          have hji : j.toNat = i := by have := HI.out; omega
          obtain ⟨hx0, hx1⟩ := SlR.cells (SlR.step HS.out (OInv.below HO2.out)) (HX.out i (by have := HI.out; have := HQ.out; omega))
          go_wp2_with fail
          obtain ⟨W, hW⟩ : ∃ W : World, W = wr.alloc (Obj.cells #[Value.int IntKind.i64 (x i).1, Value.int IntKind.i64 (x i).2] 30) := ⟨_, rfl⟩
          have hWb : Below wr.heap.size wr W := by rw [hW]; exact below_alloc (Below.refl _ _) _
          have HWB := Aside0.mk hWb
          have HOW := Aside0.mk (HO2.out.step hWb)
          have HPW := Aside0.mk (HP.out.step hWb)
          have hg := Go.Proofs.YtnfaneojdfjepaaW.Aid.heap_new wr (Obj.cells #[Value.int IntKind.i64 (x i).1, Value.int IntKind.i64 (x i).2] 30)
          rw [← hW] at hg ⊢
          have HCX : Aside0 (W.cell? ⟨wr.heap.size, 0, none⟩ = some (.int .i64 (x i).1) ∧ W.cell? ⟨wr.heap.size, 1, none⟩ = some (.int .i64 (x i).2) ∧ wr.heap.size < W.heap.size) := ⟨(blk_cell hg 0).trans rfl, (blk_cell hg 1).trans rfl, by rw [hW]; show _ < (wr.heap.push _).size; simp⟩
          obtain ⟨A1, c1, A2, c2, ⟨ha1, ha2⟩, _, ⟨hr1, hr2⟩, _, hsz⟩ := HOW.out
          have HCA := Aside0.mk (And.intro ha1 (show (w.heap.size) < W.heap.size from by omega))
          have HSA := Aside0.mk hr1
          obtain ⟨s, e, hadd, hslen, hst0, hst1⟩ := stp_add (la := (inn x y i 0).1) (by have := ostate_len x y i; exact this.1) (x i)
          have HAdd := Aside0.mk hadd
          clear ha1 ha2 hr1 hr2 hsz hadd hg hW hWb hx0 hx1 hp0 p1 q1
          refine start_ (n := 13) (S := fun w' => Below W.heap.size W w') (ds := []) #[false, false, false, false, false, false, false, false, false, false, false, false, false] (by kernel_rfl) rfl rfl (below_drew (Below.refl _ _)) (fun hHeld => ?_); refine with_tab order.tab (fun HT_ => ?_)
          generalize W.drew = w13 at hHeld ⊢
          refine pure_ (i := 0) (N := some 64) (v := ?_) (a' := ?_) #[true, false, false, false, false, false, false, false, false, false, false, false, false] rfl rfl (any_of HT_.out (by kernel_rfl)) (fun _ _ _ h => h) (Or.inl ⟨by rfl, ?_⟩) ?_ ?_
          rotate_left
          · intro w'
            go_simp
            with_reducible rfl
          rotate_left
          · simp only [Act.put, List.setIfInBounds_toArray, List.set_cons_zero, List.set_cons_succ, i64_w, i32_w]
            rfl
          refine pure_ (i := 1) (N := some 65) (v := ?_) (a' := ?_) #[true, true, false, false, false, false, false, false, false, false, false, false, false] rfl rfl (any_of HT_.out (by kernel_rfl)) (fun _ _ _ h => h) (Or.inl ⟨by rfl, ?_⟩) ?_ ?_
          rotate_left
          · intro w'
            go_simp
            with_reducible rfl
          rotate_left
          · simp only [Act.put, List.setIfInBounds_toArray, List.set_cons_zero, List.set_cons_succ, i64_w, i32_w]
            rfl
          refine take_ (i := 2) (N := some 66) (v := .slice A1 (inn x y i 0).1.length c1) #[true, true, true, false, false, false, false, false, false, false, false, false, false] rfl rfl (take_of HT_.out (by kernel_rfl)) (fun _ _ _ h => h) (Or.inl ⟨by rfl, ?_⟩) hHeld rfl ?_
          · intro w' hS_
            have hq := (hS_.cell HCA.out.2).trans HCA.out.1
            clear hS_
            go_simp
          refine norm_ (a' := ?_) ?_ ?_
          rotate_left
          · show Act.put _ (some 66) _ = _
            simp only [Act.put, List.setIfInBounds_toArray, List.set_cons_zero, List.set_cons_succ, i64_w, i32_w]
            rfl
          refine pure_ (i := 3) (N := some 67) (v := ?_) (a' := ?_) #[true, true, true, true, false, false, false, false, false, false, false, false, false] rfl rfl (any_of HT_.out (by kernel_rfl)) (fun _ _ _ h => h) (Or.inl ⟨by rfl, ?_⟩) ?_ ?_
          rotate_left
          · intro w'
            go_simp
            with_reducible rfl
          rotate_left
          · simp only [Act.put, List.setIfInBounds_toArray, List.set_cons_zero, List.set_cons_succ, i64_w, i32_w]
            rfl
          refine take_ (i := 4) (N := some 68) (v := .int .i64 (x i).1) #[true, true, true, true, true, false, false, false, false, false, false, false, false] rfl rfl (take_of HT_.out (by kernel_rfl)) (fun _ _ _ h => h) (Or.inl ⟨by rfl, ?_⟩) hHeld rfl ?_
          · intro w' hS_
            have hq := (hS_.cell HCX.out.2.2).trans HCX.out.1
            clear hS_
            go_simp
          refine norm_ (a' := ?_) ?_ ?_
          rotate_left
          · show Act.put _ (some 68) _ = _
            simp only [Act.put, List.setIfInBounds_toArray, List.set_cons_zero, List.set_cons_succ, i64_w, i32_w]
            rfl
          refine pure_ (i := 5) (N := some 69) (v := ?_) (a' := ?_) #[true, true, true, true, true, true, false, false, false, false, false, false, false] rfl rfl (any_of HT_.out (by kernel_rfl)) (fun _ _ _ h => h) (Or.inl ⟨by rfl, ?_⟩) ?_ ?_
          rotate_left
          · intro w'
            go_simp
            with_reducible rfl
          rotate_left
          · simp only [Act.put, List.setIfInBounds_toArray, List.set_cons_zero, List.set_cons_succ, i64_w, i32_w]
            rfl
          refine take_ (i := 6) (N := some 70) (v := .int .i64 (x i).2) #[true, true, true, true, true, true, true, false, false, false, false, false, false] rfl rfl (take_of HT_.out (by kernel_rfl)) (fun _ _ _ h => h) (Or.inl ⟨by rfl, ?_⟩) hHeld rfl ?_
          · intro w' hS_
            have hq := (hS_.cell HCX.out.2.2).trans HCX.out.2.1
            clear hS_
            go_simp
          refine norm_ (a' := ?_) ?_ ?_
          rotate_left
          · show Act.put _ (some 70) _ = _
            simp only [Act.put, List.setIfInBounds_toArray, List.set_cons_zero, List.set_cons_succ, i64_w, i32_w]
            rfl
          refine one_ (i := 7) (N := some 71) #[true, true, true, true, true, true, true, true, false, false, false, false, false] rfl rfl (one_of HT_.out (by kernel_rfl)) (by decide) (fun K hK => ?_)
          refine goes_ Try.func17 (by kernel_rfl) rfl #[.slice A1 (inn x y i 0).1.length c1, .int .i64 (x i).1, .int .i64 (x i).2] (by rfl) rfl rfl (by (try simp only [List.map_toArray, List.map_cons, List.map_nil]); first | done | rfl) ?_
          refine (add_calls 600 (x i).1 (x i).2 HAdd.out _ ?s1).mono ?_
          case s1 => exact (HSA.out.later ((Fine.refl _ _).step hHeld)).bare
          rintro e w2 ⟨B, d, rfl, hb2, hO2⟩
          refine ⟨_, rfl, ?_⟩
          have HB2 := Aside0.mk (below_step hHeld hb2)
          have HR2 := Aside0.mk (hO2.sl.mono (L' := Bx w) (fun b hb => by have := HOW.out.size; have := hHeld.size; unfold Bx at hb; omega))
          clear hb2 hO2
          refine hK.out _ _ HB2.out (fun hHeld3 => ?_)
          clear hK K
          refine norm_ (a' := ?_) ?_ ?_
          rotate_left
          · show Act.put _ (some 71) _ = _
            simp only [Act.put, List.setIfInBounds_toArray, List.set_cons_zero, List.set_cons_succ, i64_w, i32_w]
            rfl
          refine pure_ (i := 8) (N := some 63) (v := ?_) (a' := ?_) #[true, true, true, true, true, true, true, true, true, false, false, false, false] rfl rfl (any_of HT_.out (by kernel_rfl)) (fun _ _ _ h => h) (Or.inl ⟨by rfl, ?_⟩) ?_ ?_
          rotate_left
          · intro w'
            go_simp
            with_reducible rfl
          rotate_left
          · simp only [Act.put, List.setIfInBounds_toArray, List.set_cons_zero, List.set_cons_succ, i64_w, i32_w]
            rfl
          refine pure_ (i := 9) (N := some 72) (v := ?_) (a' := ?_) #[true, true, true, true, true, true, true, true, true, true, false, false, false] rfl rfl (any_of HT_.out (by kernel_rfl)) (fun _ _ _ h => h) (Or.inl ⟨by rfl, ?_⟩) ?_ ?_
          rotate_left
          · intro w'
            go_simp
            with_reducible rfl
          rotate_left
          · simp only [Act.put, List.setIfInBounds_toArray, List.set_cons_zero, List.set_cons_succ, i64_w, i32_w]
            rfl
          refine pure_ (i := 10) (N := some 73) (v := ?_) (a' := ?_) #[true, true, true, true, true, true, true, true, true, true, true, false, false] rfl rfl (any_of HT_.out (by kernel_rfl)) (fun _ _ _ h => h) (Or.inl ⟨by rfl, ?_⟩) ?_ ?_
          rotate_left
          · intro w'
            go_simp
            with_reducible rfl
          rotate_left
          · simp only [Act.put, List.setIfInBounds_toArray, List.set_cons_zero, List.set_cons_succ, i64_w, i32_w]
            rfl
          refine pure_ (i := 11) (N := some 11) (v := ?_) (a' := ?_) #[true, true, true, true, true, true, true, true, true, true, true, true, false] rfl rfl (any_of HT_.out (by kernel_rfl)) (fun _ _ _ h => h) (Or.inl ⟨by rfl, ?_⟩) ?_ ?_
          rotate_left
          · intro w'
            go_simp
            with_reducible rfl
          rotate_left
          · simp only [Act.put, List.setIfInBounds_toArray, List.set_cons_zero, List.set_cons_succ, i64_w, i32_w]
            rfl
          refine pure_ (i := 12) (N := some 12) (v := ?_) (a' := ?_) #[true, true, true, true, true, true, true, true, true, true, true, true, true] rfl rfl (any_of HT_.out (by kernel_rfl)) (fun _ _ _ h => h) (Or.inl ⟨by rfl, ?_⟩) ?_ ?_
          rotate_left
          · intro w'
            go_simp
            with_reducible rfl
          rotate_left
          · simp only [Act.put, List.setIfInBounds_toArray, List.set_cons_zero, List.set_cons_succ, i64_w, i32_w]
            rfl
          refine done_ (done_of HT_.out (by kernel_rfl)) ?_
          have HO3 := Aside0.mk (HOW.out.step HB2.out)
          have HP3 := Aside0.mk (HPW.out.step HB2.out)
          by_cases he : e = 0
          · have heb : (e == 0) = true := beq_iff_eq.mpr he
            have hsw := hst0 he
            obtain ⟨_, _, _, _, ⟨hc1, hc2⟩, ⟨hf1, hf2⟩, _⟩ := HO3.out
            have HE := Aside0.mk hsw
            clear hc2 hf2 he hst0 hst1 hsw
            go_wp2
            go_roundg (gk - 1)
            case measure => have := HZ.out; omega
            case rel => exact ⟨1, 1, rfl, ⟨by omega, by omega, by have := HZ.out; omega⟩, ⟨by show OInv w (stp (inn x y i 0).1 (x i)) (inn x y i 0).2 _; rw [HE.out]; exact HO3.out.put1 HR2.out⟩, ⟨HP3.out.put (by unfold Bx; omega) _⟩⟩
          · have heb : (e == 0) = false := beq_eq_false_iff_ne.mpr he
            have hsw := hst1 he
            have HE := Aside0.mk hsw
            clear he hst0 hst1 hsw
            go_wp2
            go_roundg (gk - 1)
            case measure => have := HZ.out; omega
            case rel => exact ⟨1, 1, rfl, ⟨by omega, by omega, by have := HZ.out; omega⟩, ⟨by show OInv w (stp (inn x y i 0).1 (x i)) (inn x y i 0).2 _; rw [HE.out]; exact HO3.out⟩, HP3⟩
        | 1, HZ, HO2 =>
          obtain rfl : z = 1 := HZ.out.1
          obtain ⟨⟨hp0, hp1⟩, _⟩ := HP.out
          clear hp0
          have p1 : (0 ≤ j) = True := eq_true (by have := HI.out; omega)
          have q1 := eq_true HQ.out
          have hji : j.toNat = i := by have := HI.out; omega
          obtain ⟨hx0, hx1⟩ := SlR.cells (SlR.step HS.out (OInv.below HO2.out)) (HX.out i (by have := HI.out; have := HQ.out; omega))
          obtain ⟨m, hm⟩ : ∃ m : Nat, m = (l.length - 1 - i + t) % l.length := ⟨_, rfl⟩
          have hml : m < l.length := by rw [hm]; exact Nat.mod_lt _ HL.out.1
          have m1 : (0 ≤ (m : Int)) = True := eq_true (by omega)
          have m2 : ((m : Int) < (l.length : Int)) = True := eq_true (by omega)
          have hmw : (wrap64 (wrap64 ((l.length : Int) - 1 - j) + (t : Int))).tmod (l.length : Int) = (m : Int) := order.ix HL.out HT.out (by have := HI.out; have := HQ.out; omega) (by have := HI.out; have := HQ.out; omega) hm
          have hl0 : ((l.length : Int) == 0) = false := c0b
          have hym : l[m]? = some (y i) := by rw [hm]; exact HY.out i (by have := HI.out; have := HQ.out; omega)
          obtain ⟨hy0, hy1⟩ := SlR.cells (SlR.step HS.out (OInv.below HO2.out)) hym
          have hyw := below_alloc (Below.refl wr.heap.size wr) (Obj.cells #[Value.int IntKind.i64 (x i).1, Value.int IntKind.i64 (x i).2] 30)
          replace hy0 := (hyw.cell (cell_spot hy0).2).trans hy0
          replace hy1 := (hyw.cell (cell_spot hy1).2).trans hy1
          clear hyw
          have HM := Aside0.mk hm
          clear hm hml hym
          go_wp2_with fail
          obtain ⟨W, hW⟩ : ∃ W : World, W = wr.alloc (Obj.cells #[Value.int IntKind.i64 (y i).1, Value.int IntKind.i64 (y i).2] 30) := ⟨_, rfl⟩
          have hWb : Below wr.heap.size wr W := by rw [hW]; exact below_alloc (Below.refl _ _) _
          have HWB := Aside0.mk hWb
          have HOW := Aside0.mk (HO2.out.step hWb)
          have HPW := Aside0.mk (HP.out.step hWb)
          have hg := Go.Proofs.YtnfaneojdfjepaaW.Aid.heap_new wr (Obj.cells #[Value.int IntKind.i64 (y i).1, Value.int IntKind.i64 (y i).2] 30)
          rw [← hW] at hg ⊢
          have HCX : Aside0 (W.cell? ⟨wr.heap.size, 0, none⟩ = some (.int .i64 (y i).1) ∧ W.cell? ⟨wr.heap.size, 1, none⟩ = some (.int .i64 (y i).2) ∧ wr.heap.size < W.heap.size) := ⟨(blk_cell hg 0).trans rfl, (blk_cell hg 1).trans rfl, by rw [hW]; show _ < (wr.heap.push _).size; simp⟩
          obtain ⟨A2, c2, A1, c1, ⟨ha1, ha2⟩, _, ⟨hr1, hr2⟩, _, hsz⟩ := HOW.out
          have HCA := Aside0.mk (And.intro ha2 (show (w.heap.size + 1) < W.heap.size from by omega))
          have HSA := Aside0.mk hr2
          obtain ⟨s, e, hadd, hslen, hst0, hst1⟩ := stp_add (la := (inn x y i 1).2) (by have := ostate_len x y i; exact this.2) (y i)
          have HAdd := Aside0.mk hadd
          clear hy0 hy1 m1 m2 hmw ha1 ha2 hr1 hr2 hsz hadd hg hW hWb hx0 hx1 hp1 p1 q1
          refine start_ (n := 13) (S := fun w' => Below W.heap.size W w') (ds := []) #[false, false, false, false, false, false, false, false, false, false, false, false, false] (by kernel_rfl) rfl rfl (below_drew (Below.refl _ _)) (fun hHeld => ?_); refine with_tab order.tab (fun HT_ => ?_)
          generalize W.drew = w13 at hHeld ⊢
          refine pure_ (i := 0) (N := some 64) (v := ?_) (a' := ?_) #[true, false, false, false, false, false, false, false, false, false, false, false, false] rfl rfl (any_of HT_.out (by kernel_rfl)) (fun _ _ _ h => h) (Or.inl ⟨by rfl, ?_⟩) ?_ ?_
          rotate_left
          · intro w'
            go_simp
            with_reducible rfl
          rotate_left
          · simp only [Act.put, List.setIfInBounds_toArray, List.set_cons_zero, List.set_cons_succ, i64_w, i32_w]
            rfl
          refine pure_ (i := 1) (N := some 65) (v := ?_) (a' := ?_) #[true, true, false, false, false, false, false, false, false, false, false, false, false] rfl rfl (any_of HT_.out (by kernel_rfl)) (fun _ _ _ h => h) (Or.inl ⟨by rfl, ?_⟩) ?_ ?_
          rotate_left
          · intro w'
            go_simp
            with_reducible rfl
          rotate_left
          · simp only [Act.put, List.setIfInBounds_toArray, List.set_cons_zero, List.set_cons_succ, i64_w, i32_w]
            rfl
          refine take_ (i := 2) (N := some 66) (v := .slice A1 (inn x y i 1).2.length c1) #[true, true, true, false, false, false, false, false, false, false, false, false, false] rfl rfl (take_of HT_.out (by kernel_rfl)) (fun _ _ _ h => h) (Or.inl ⟨by rfl, ?_⟩) hHeld rfl ?_
          · intro w' hS_
            have hq := (hS_.cell HCA.out.2).trans HCA.out.1
            clear hS_
            go_simp
          refine norm_ (a' := ?_) ?_ ?_
          rotate_left
          · show Act.put _ (some 66) _ = _
            simp only [Act.put, List.setIfInBounds_toArray, List.set_cons_zero, List.set_cons_succ, i64_w, i32_w]
            rfl
          refine pure_ (i := 3) (N := some 67) (v := ?_) (a' := ?_) #[true, true, true, true, false, false, false, false, false, false, false, false, false] rfl rfl (any_of HT_.out (by kernel_rfl)) (fun _ _ _ h => h) (Or.inl ⟨by rfl, ?_⟩) ?_ ?_
          rotate_left
          · intro w'
            go_simp
            with_reducible rfl
          rotate_left
          · simp only [Act.put, List.setIfInBounds_toArray, List.set_cons_zero, List.set_cons_succ, i64_w, i32_w]
            rfl
          refine take_ (i := 4) (N := some 68) (v := .int .i64 (y i).1) #[true, true, true, true, true, false, false, false, false, false, false, false, false] rfl rfl (take_of HT_.out (by kernel_rfl)) (fun _ _ _ h => h) (Or.inl ⟨by rfl, ?_⟩) hHeld rfl ?_
          · intro w' hS_
            have hq := (hS_.cell HCX.out.2.2).trans HCX.out.1
            clear hS_
            go_simp
          refine norm_ (a' := ?_) ?_ ?_
          rotate_left
          · show Act.put _ (some 68) _ = _
            simp only [Act.put, List.setIfInBounds_toArray, List.set_cons_zero, List.set_cons_succ, i64_w, i32_w]
            rfl
          refine pure_ (i := 5) (N := some 69) (v := ?_) (a' := ?_) #[true, true, true, true, true, true, false, false, false, false, false, false, false] rfl rfl (any_of HT_.out (by kernel_rfl)) (fun _ _ _ h => h) (Or.inl ⟨by rfl, ?_⟩) ?_ ?_
          rotate_left
          · intro w'
            go_simp
            with_reducible rfl
          rotate_left
          · simp only [Act.put, List.setIfInBounds_toArray, List.set_cons_zero, List.set_cons_succ, i64_w, i32_w]
            rfl
          refine take_ (i := 6) (N := some 70) (v := .int .i64 (y i).2) #[true, true, true, true, true, true, true, false, false, false, false, false, false] rfl rfl (take_of HT_.out (by kernel_rfl)) (fun _ _ _ h => h) (Or.inl ⟨by rfl, ?_⟩) hHeld rfl ?_
          · intro w' hS_
            have hq := (hS_.cell HCX.out.2.2).trans HCX.out.2.1
            clear hS_
            go_simp
          refine norm_ (a' := ?_) ?_ ?_
          rotate_left
          · show Act.put _ (some 70) _ = _
            simp only [Act.put, List.setIfInBounds_toArray, List.set_cons_zero, List.set_cons_succ, i64_w, i32_w]
            rfl
          refine one_ (i := 7) (N := some 71) #[true, true, true, true, true, true, true, true, false, false, false, false, false] rfl rfl (one_of HT_.out (by kernel_rfl)) (by decide) (fun K hK => ?_)
          refine goes_ Try.func17 (by kernel_rfl) rfl #[.slice A1 (inn x y i 1).2.length c1, .int .i64 (y i).1, .int .i64 (y i).2] (by rfl) rfl rfl (by (try simp only [List.map_toArray, List.map_cons, List.map_nil]); first | done | rfl) ?_
          refine (add_calls 600 (y i).1 (y i).2 HAdd.out _ ?s1).mono ?_
          case s1 => exact (HSA.out.later ((Fine.refl _ _).step hHeld)).bare
          rintro e w2 ⟨B, d, rfl, hb2, hO2⟩
          refine ⟨_, rfl, ?_⟩
          have HB2 := Aside0.mk (below_step hHeld hb2)
          have HR2 := Aside0.mk (hO2.sl.mono (L' := Bx w) (fun b hb => by have := HOW.out.size; have := hHeld.size; unfold Bx at hb; omega))
          clear hb2 hO2
          refine hK.out _ _ HB2.out (fun hHeld3 => ?_)
          clear hK K
          refine norm_ (a' := ?_) ?_ ?_
          rotate_left
          · show Act.put _ (some 71) _ = _
            simp only [Act.put, List.setIfInBounds_toArray, List.set_cons_zero, List.set_cons_succ, i64_w, i32_w]
            rfl
          refine pure_ (i := 8) (N := some 63) (v := ?_) (a' := ?_) #[true, true, true, true, true, true, true, true, true, false, false, false, false] rfl rfl (any_of HT_.out (by kernel_rfl)) (fun _ _ _ h => h) (Or.inl ⟨by rfl, ?_⟩) ?_ ?_
          rotate_left
          · intro w'
            go_simp
            with_reducible rfl
          rotate_left
          · simp only [Act.put, List.setIfInBounds_toArray, List.set_cons_zero, List.set_cons_succ, i64_w, i32_w]
            rfl
          refine pure_ (i := 9) (N := some 72) (v := ?_) (a' := ?_) #[true, true, true, true, true, true, true, true, true, true, false, false, false] rfl rfl (any_of HT_.out (by kernel_rfl)) (fun _ _ _ h => h) (Or.inl ⟨by rfl, ?_⟩) ?_ ?_
          rotate_left
          · intro w'
            go_simp
            with_reducible rfl
          rotate_left
          · simp only [Act.put, List.setIfInBounds_toArray, List.set_cons_zero, List.set_cons_succ, i64_w, i32_w]
            rfl
          refine pure_ (i := 10) (N := some 73) (v := ?_) (a' := ?_) #[true, true, true, true, true, true, true, true, true, true, true, false, false] rfl rfl (any_of HT_.out (by kernel_rfl)) (fun _ _ _ h => h) (Or.inl ⟨by rfl, ?_⟩) ?_ ?_
          rotate_left
          · intro w'
            go_simp
            with_reducible rfl
          rotate_left
          · simp only [Act.put, List.setIfInBounds_toArray, List.set_cons_zero, List.set_cons_succ, i64_w, i32_w]
            rfl
          refine pure_ (i := 11) (N := some 11) (v := ?_) (a' := ?_) #[true, true, true, true, true, true, true, true, true, true, true, true, false] rfl rfl (any_of HT_.out (by kernel_rfl)) (fun _ _ _ h => h) (Or.inl ⟨by rfl, ?_⟩) ?_ ?_
          rotate_left
          · intro w'
            go_simp
            with_reducible rfl
          rotate_left
          · simp only [Act.put, List.setIfInBounds_toArray, List.set_cons_zero, List.set_cons_succ, i64_w, i32_w]
            rfl
          refine pure_ (i := 12) (N := some 12) (v := ?_) (a' := ?_) #[true, true, true, true, true, true, true, true, true, true, true, true, true] rfl rfl (any_of HT_.out (by kernel_rfl)) (fun _ _ _ h => h) (Or.inl ⟨by rfl, ?_⟩) ?_ ?_
          rotate_left
          · intro w'
            go_simp
            with_reducible rfl
          rotate_left
          · simp only [Act.put, List.setIfInBounds_toArray, List.set_cons_zero, List.set_cons_succ, i64_w, i32_w]
            rfl
          refine done_ (done_of HT_.out (by kernel_rfl)) ?_
          have HO3 := Aside0.mk (HOW.out.step HB2.out)
          have HP3 := Aside0.mk (HPW.out.step HB2.out)
          by_cases he : e = 0
          · have heb : (e == 0) = true := beq_iff_eq.mpr he
            have hsw := hst0 he
            obtain ⟨_, _, _, _, ⟨hc1, hc2⟩, ⟨hf1, hf2⟩, _⟩ := HO3.out
            have HE := Aside0.mk hsw
            clear hc1 hf1 he hst0 hst1 hsw
            go_wp2
            go_roundg (gk - 1)
            case measure => have := HZ.out; omega
            case rel => exact ⟨2, 2, rfl, ⟨by omega, by omega, by have := HZ.out; omega⟩, ⟨by show OInv w (inn x y i 1).1 (stp (inn x y i 1).2 (y i)) _; rw [HE.out]; exact HO3.out.put2 HR2.out⟩, ⟨HP3.out.put (by unfold Bx; omega) _⟩⟩
          · have heb : (e == 0) = false := beq_eq_false_iff_ne.mpr he
            have hsw := hst1 he
            have HE := Aside0.mk hsw
            clear he hst0 hst1 hsw
            go_wp2
            go_roundg (gk - 1)
            case measure => have := HZ.out; omega
            case rel => exact ⟨2, 2, rfl, ⟨by omega, by omega, by have := HZ.out; omega⟩, ⟨by show OInv w (inn x y i 1).1 (stp (inn x y i 1).2 (y i)) _; rw [HE.out]; exact HO3.out⟩, HP3⟩
        | q + 2, HZ, HO2 =>
          obtain rfl : q = 0 := by have := HZ.out; omega
          obtain rfl : z = 2 := HZ.out.1
          go_wp2
          have hinc : wrap64 (j + 1) = j + 1 := by have := HI.out; have := HL.out; unfold wrap64; omega
          go_roundg (l.length - i - 1)
          case measure => have := HI.out; have := HQ.out; omega
          case rel => exact ⟨i + 1, wrap64 (j + 1), rfl, ⟨by rw [hinc]; have := HI.out; omega, by have := HI.out; have := HQ.out; omega, by have := HI.out; omega⟩, HO2⟩
    · have hjb : decide (j < (l.length : Int)) = false := decide_eq_false hj
      obtain rfl : i = l.length := by have := HI.out; omega
      clear hj
      obtain ⟨A1, c1, A2, c2, ⟨hA, hB⟩, _, ⟨hR1, hR2⟩, hb, _⟩ := HO.out
      have HR1 := Aside0.mk hR1.bare
      have HR2 := Aside0.mk hR2.bare
      have HB := Aside0.mk hb
      clear hR1 hR2 hb
      go_wp2_with fail
      refine (same_calls 600 HSm.out _ HR1.out HR2.out).mono ?_
      rintro e w3 ⟨rfl, hb3⟩
      have HB3 := Aside0.mk hb3
      have HO3 := Aside0.mk (HO.out.step hb3)
      clear hA hB hb3
      obtain ⟨B1, d1, B2, d2, ⟨hA, hB⟩, _, ⟨hR1, hR2⟩, hb, _⟩ := HO3.out
      have HR3 := Aside0.mk hR1.bare
      clear hR1 hR2 hb hB
      go_wp2_with fail
      refine (right_calls 600 HRt.out _ HR3.out).mono ?_
      rintro e w4 ⟨rfl, hb4⟩
      have HB4 := Aside0.mk hb4
      clear hb4 hA
      go_wp2_with fail
      refine (alive_calls _).mono ?_
      rintro e w5 ⟨rfl, hb5⟩
      have HB5 := Aside0.mk hb5
      clear hb5
      go_wp2
      go_ret
      exact ⟨rfl, below_step (below_step (below_step HB.out HB3.out) HB4.out) HB5.out⟩
end Go.Proofs.Ytnfaneojdfjepaa.X

