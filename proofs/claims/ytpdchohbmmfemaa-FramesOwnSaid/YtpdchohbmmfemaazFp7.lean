import Derived.Test.YtpdchohbmmfemaazFp6
namespace Go.Proofs.Ytpdchohbmmfemaa.X
open Go Go.RowKit Go.Proofs.YtpdchohbmmfemaaW.Rx Go.Proofs.Ytpdchohbmmfemaa.Plain Go.Proofs.YtpdchohbmmfemaaW.PrintWords
set_option linter.unusedVariables false
set_option linter.unusedSimpArgs false
set_option linter.unusedSectionVars false
def At (b : List Int) (p : Int) (s : List Int) : Prop := ∃ pre rest, b = pre ++ (s ++ rest) ∧ (pre.length : Int) = p
theorem At.left {b : List Int} {p : Int} {s t : List Int} (h : At b p (s ++ t)) : At b p s := by
 obtain ⟨pre, rest, rfl, hp⟩ := h
 exact ⟨pre, t ++ rest, by rw [List.append_assoc], hp⟩
theorem At.right {b : List Int} {p : Int} {s t : List Int} (h : At b p (s ++ t)) : At b (p + s.length) t := by
 obtain ⟨pre, rest, rfl, hp⟩ := h
 exact ⟨pre ++ s, rest, by simp [List.append_assoc], by rw [List.length_append]; omega⟩
theorem At.le {b : List Int} {p : Int} {s : List Int} (h : At b p s) : 0 ≤ p ∧ p + s.length ≤ b.length := by
 obtain ⟨pre, rest, rfl, hp⟩ := h
 simp only [List.length_append]
 omega
theorem numR_at {b : List Int} {p n : Int} (h : At b p (wn n)) (hn : may n = true) : numR b p = .ok (n, p + (wn n).length) := by
 obtain ⟨pre, rest, rfl, hp⟩ := h
 obtain ⟨g0, g3, gw, gn, gp⟩ := may_mark hn
 have hg := get_putw pre rest n g0 g3 gn gp
 have hl : ((wn n).length : Int) = wide (mrk (szOf n)) := by
  have := putw_len [] n _ g0 g3
  unfold wn
  simp only [List.length_nil] at this
  omega
 have e : pre ++ (wn n ++ rest) = putw pre n (mrk (szOf n)) ++ rest := by simp [wn, putw]
 rw [e, ← hp, hl]
 unfold numR
 rw [hg]
 rfl
theorem belowR_at {b : List Int} {p n most e : Int} (h : At b p (wn n)) (hn : may n = true) (hm : n ≤ most) : belowR b p most e = .ok (n, p + (wn n).length) := by
 unfold belowR
 rw [numR_at h hn]
 simp only [Except.bind]
 rw [if_pos hm]
theorem rd_at {b : List Int} {p c : Int} {s : List Int} (h : At b p (c :: s)) : rd b p = c := by
 obtain ⟨pre, rest, rfl, rfl⟩ := h
 rw [List.cons_append]
 exact rd_mid _ _ _
theorem takeR_at {b : List Int} {p : Int} {d : List Int} (h : At b p d) : takeR b p d.length = .ok (d, p + d.length) := by
 have hl := h.le
 obtain ⟨pre, rest, rfl, rfl⟩ := h
 unfold takeR
 rw [if_pos (by omega), Int.toNat_natCast, Int.toNat_natCast, List.drop_left, List.take_left]
theorem nums_at {b : List Int} {p n : Int} {l s : List Int} (h : At b p ((n :: l).flatMap wn ++ s)) : At b p (wn n) ∧ At b (p + (wn n).length) (l.flatMap wn ++ s) := by
 rw [List.flatMap_cons, List.append_assoc] at h
 exact ⟨h.left, h.right⟩
theorem gaps_at {b : List Int} (r : List (Int × Int)) : ∀ (low p : Int) (acc : List (Int × Int)), At b p (gapsB low r) → Desc low r → low ≤ 4611686018427387903 → ackL b r.length low p acc = .ok (acc ++ r, p + (gapsB low r).length) := by
 induction r with
 | nil => intro low p acc h hd h0; simp [ackL, gapsB]
 | cons y r ih =>
  intro low p acc h hd h0
  obtain ⟨⟨a1, a2, a3⟩, hy, hd⟩ := hd
  rw [gapsB] at h
  rw [List.length_cons, ackL, belowR_at h.left ((may_iff _).2 (by omega)) (by omega)]
  simp only [Except.bind]
  have h2 := h.right
  have e : low - 2 - (low - 2 - y.2) = y.2 := by omega
  rw [e, belowR_at h2.left ((may_iff _).2 (by omega)) (by omega)]
  simp only
  rw [show y.2 - (y.2 - y.1) = y.1 by omega, ih y.1 _ _ h2.right hd (by omega)]
  simp only [gapsB, List.length_append, List.append_assoc, List.singleton_append]
  congr 2
  omega
theorem ack_at {b : List Int} {p n : Int} {z : Int × Int} {r : List (Int × Int)} (h : At b p ([z.2, n, (r.length : Int)].flatMap wn ++ (wn (z.2 - z.1) ++ gapsB z.1 r))) (hn : may n = true) (hz : okS z) (hd : Desc z.1 r) (hr : r.length ≤ 31) :
  ackR b p = .ok ((2, 0, 0, n, 0, false, [], (z :: r).reverse), p + (([z.2, n, (r.length : Int)].flatMap wn ++ (wn (z.2 - z.1) ++ gapsB z.1 r)).length : Int)) := by
 obtain ⟨a1, a2, a3⟩ := hz
 obtain ⟨h1, h2⟩ := nums_at h
 obtain ⟨h3, h4⟩ := nums_at h2
 obtain ⟨h5, h6⟩ := nums_at h4
 rw [List.flatMap_nil, List.nil_append] at h6
 unfold ackR
 rw [numR_at h1 ((may_iff _).2 (by omega))]
 simp only [Except.bind]
 rw [numR_at h3 hn]
 simp only
 rw [belowR_at h5 ((may_iff _).2 (by omega)) (by omega)]
 simp only
 rw [belowR_at h6.left ((may_iff _).2 (by omega)) (by omega)]
 simp only
 rw [Int.toNat_natCast, show z.2 - (z.2 - z.1) = z.1 by omega, gaps_at r z.1 _ _ h6.right hd (by omega)]
 simp only [List.flatMap_cons, List.flatMap_nil, List.length_append, List.length_nil, List.singleton_append]
 congr 2
 omega
theorem stream_at {b : List Int} {p p0 s o : Int} {d : List Int} (f : Bool) (h : At b p ([s, o, (d.length : Int)].flatMap wn ++ d)) (hs : may s = true) (ho : may o = true) (hd : d.length ≤ 1200) (hod : o ≤ 4611686018427387903 - (d.length : Int)) :
  streamR b (bif f then 15 else 14) p0 p = .ok ((8, s, o, 0, 0, f, d, []), p + (([s, o, (d.length : Int)].flatMap wn ++ d).length : Int)) := by
 obtain ⟨h1, h2⟩ := nums_at h
 obtain ⟨h3, h4⟩ := nums_at h2
 obtain ⟨h5, h6⟩ := nums_at h4
 rw [List.flatMap_nil, List.nil_append] at h6
 unfold streamR
 rw [numR_at h1 hs]
 simp only [Except.bind]
 rw [if_pos (by cases f <;> rfl), numR_at h3 ho]
 simp only
 rw [if_pos (by cases f <;> rfl), numR_at h5 (may_len hd)]
 simp only
 rw [if_pos (by omega), takeR_at h6]
 simp only [List.flatMap_cons, List.flatMap_nil, List.length_append, List.length_nil]
 have e : decide ((bif f then (15 : Int) else 14) % 2 = 1) = f := by cases f <;> rfl
 rw [e]
 congr 2
 omega
theorem frame_at {b : List Int} {p : Int} {x : Fr} (hx : mayB x = true) (h : At b p (oneP x)) : frameR b p = .ok (x, p + (oneP x).length) := by
 obtain ⟨g1, g2, g3, g4, g5, g6, g7, g8⟩ := may_parts hx
 obtain ⟨kd, s, o, n, c, f, d, z⟩ := x
 unfold oneP at h ⊢
 unfold shapeB at g1
 simp only at h g1 g2 g3 g4 g5 g6 g7 g8 ⊢
 by_cases c2 : kd = 2
 ·subst c2
  simp only [show ¬ ((2 : Int) = 0 ∨ (2 : Int) = 1 ∨ (2 : Int) = 30) by decide, if_true, if_false, Bool.and_eq_true, decide_eq_true_eq, Bool.not_eq_true'] at h g1 ⊢
  obtain ⟨⟨⟨⟨rfl, rfl⟩, rfl⟩, rfl⟩, rfl⟩ := g1
  obtain ⟨y, r, hr, hy, hd, hl⟩ := spans_desc (g8 rfl)
  have e : z = (y :: r).reverse := by rw [← hr, List.reverse_reverse]
  rw [hr] at h ⊢
  unfold ackP at h ⊢
  have h1 := rd_at (s := []) h.left
  unfold frameR
  simp only [h1]
  have := ack_at h.right g4 hy hd hl
  simp only [List.length_singleton, Int.natCast_one] at this
  simp only [show ¬ ((2 : Int) = 0 ∨ (2 : Int) = 1 ∨ (2 : Int) = 30) by decide, if_true, if_false]
  rw [this, e]
  simp only [List.length_append, List.length_singleton]
  congr 2
  omega
 rw [if_neg c2] at h ⊢
 by_cases c4 : kd = 4
 ·subst c4
  simp only [show ¬ ((4 : Int) = 0 ∨ (4 : Int) = 1 ∨ (4 : Int) = 30) by decide, show ¬ ((4 : Int) = 2) by decide, show ¬ ((4 : Int) = 8) by decide, if_true, if_false, Bool.and_eq_true, decide_eq_true_eq, Bool.not_eq_true'] at h g1 ⊢
  obtain ⟨⟨⟨rfl, rfl⟩, rfl⟩, rfl⟩ := g1
  have h1 := rd_at (s := []) h.left
  have h2 := h.right
  have h2 : At b (p + 1) ([s, c, o].flatMap wn) := h2
  rw [← List.append_nil ([s, c, o].flatMap wn)] at h2
  obtain ⟨k1, k2⟩ := nums_at h2
  obtain ⟨k3, k4⟩ := nums_at k2
  obtain ⟨k5, k6⟩ := nums_at k4
  unfold frameR
  simp only [h1, show ¬ ((4 : Int) = 0 ∨ (4 : Int) = 1 ∨ (4 : Int) = 30) by decide, show ¬ ((4 : Int) = 2) by decide, if_true, if_false]
  rw [numR_at k1 g2]
  simp only [Except.bind]
  rw [numR_at k3 g5]
  simp only
  rw [numR_at k5 g3]
  simp only [List.flatMap_cons, List.flatMap_nil, List.length_append, List.length_nil, List.length_singleton]
  congr 2
  omega
 rw [if_neg c4] at h ⊢
 by_cases c5 : kd = 5
 ·subst c5
  simp only [show ¬ ((5 : Int) = 0 ∨ (5 : Int) = 1 ∨ (5 : Int) = 30) by decide, show ¬ ((5 : Int) = 2) by decide, show ¬ ((5 : Int) = 8) by decide, show ¬ ((5 : Int) = 4) by decide, if_true, if_false, Bool.and_eq_true, decide_eq_true_eq, Bool.not_eq_true'] at h g1 ⊢
  obtain ⟨⟨⟨⟨rfl, rfl⟩, rfl⟩, rfl⟩, rfl⟩ := g1
  have h1 := rd_at (s := []) h.left
  have h2 := h.right
  have h2 : At b (p + 1) ([s, c].flatMap wn) := h2
  rw [← List.append_nil ([s, c].flatMap wn)] at h2
  obtain ⟨k1, k2⟩ := nums_at h2
  obtain ⟨k3, k4⟩ := nums_at k2
  unfold frameR
  simp only [h1, show ¬ ((5 : Int) = 0 ∨ (5 : Int) = 1 ∨ (5 : Int) = 30) by decide, show ¬ ((5 : Int) = 2) by decide, show ¬ ((5 : Int) = 4) by decide, if_true, if_false]
  rw [numR_at k1 g2]
  simp only [Except.bind]
  rw [numR_at k3 g5]
  simp only [List.flatMap_cons, List.flatMap_nil, List.length_append, List.length_nil, List.length_singleton]
  congr 2
  omega
 rw [if_neg c5] at h ⊢
 by_cases c8 : kd = 8
 ·subst c8
  simp only [show ¬ ((8 : Int) = 0 ∨ (8 : Int) = 1 ∨ (8 : Int) = 30) by decide, show ¬ ((8 : Int) = 2) by decide, if_true, if_false, Bool.and_eq_true, decide_eq_true_eq, Bool.not_eq_true'] at h g1 ⊢
  obtain ⟨⟨rfl, rfl⟩, rfl⟩ := g1
  have h1 := rd_at (s := []) h.left
  have h2 : At b (p + 1) ([s, o, (d.length : Int)].flatMap wn ++ d) := h.right
  have := stream_at (p0 := p) f h2 g2 g3 g6 g7
  unfold frameR
  simp only [h1]
  have hk : (bif f then (15 : Int) else 14) = 15 ∨ (bif f then (15 : Int) else 14) = 14 := by cases f <;> simp
  generalize (bif f then (15 : Int) else 14) = kk at hk this
  rw [if_neg (by omega), if_neg (by omega), if_neg (by omega), if_neg (by omega), if_neg (by omega), if_neg (by omega), if_neg (by omega), if_pos (by omega), this]
  simp only [List.length_append, List.length_singleton]
  congr 2
  omega
 rw [if_neg c8] at h ⊢
 by_cases c17 : kd = 17
 ·subst c17
  simp only [show ¬ ((17 : Int) = 0 ∨ (17 : Int) = 1 ∨ (17 : Int) = 30) by decide, show ¬ ((17 : Int) = 2) by decide, show ¬ ((17 : Int) = 8) by decide, show ¬ ((17 : Int) = 4) by decide, show ¬ ((17 : Int) = 5) by decide, if_true, if_false, Bool.and_eq_true, decide_eq_true_eq, Bool.not_eq_true'] at h g1 ⊢
  obtain ⟨⟨⟨⟨rfl, rfl⟩, rfl⟩, rfl⟩, rfl⟩ := g1
  have h1 := rd_at (s := []) h.left
  have h2 : At b (p + 1) ([s, n].flatMap wn) := h.right
  rw [← List.append_nil ([s, n].flatMap wn)] at h2
  obtain ⟨k1, k2⟩ := nums_at h2
  obtain ⟨k3, k4⟩ := nums_at k2
  unfold frameR
  simp only [h1, show ¬ ((17 : Int) = 0 ∨ (17 : Int) = 1 ∨ (17 : Int) = 30) by decide, show ¬ ((17 : Int) = 2) by decide, show ¬ ((17 : Int) = 4) by decide, show ¬ ((17 : Int) = 5) by decide, if_true, if_false]
  rw [numR_at k1 g2]
  simp only [Except.bind]
  rw [numR_at k3 g4]
  simp only [List.flatMap_cons, List.flatMap_nil, List.length_append, List.length_nil, List.length_singleton]
  congr 2
  omega
 rw [if_neg c17] at h ⊢
 by_cases c16 : kd = 16 ∨ kd = 18
 ·rw [if_pos c16] at h ⊢
  simp only [c2, c8, c4, c5, c17, c16, show ¬ (kd = 0 ∨ kd = 1 ∨ kd = 30) by omega, if_true, if_false, Bool.and_eq_true, decide_eq_true_eq, Bool.not_eq_true'] at g1
  obtain ⟨⟨⟨⟨⟨rfl, rfl⟩, rfl⟩, rfl⟩, rfl⟩, rfl⟩ := g1
  have h1 := rd_at (s := []) h.left
  have h2 : At b (p + 1) ([n].flatMap wn) := h.right
  rw [← List.append_nil ([n].flatMap wn)] at h2
  obtain ⟨k1, k2⟩ := nums_at h2
  unfold frameR
  simp only [h1, c2, c4, c5, c17, c16, show ¬ (kd = 0 ∨ kd = 1 ∨ kd = 30) by omega, if_true, if_false]
  rw [numR_at k1 g4]
  simp only [Except.bind, List.flatMap_cons, List.flatMap_nil, List.length_append, List.length_nil, List.length_singleton]
  congr 2
  omega
 rw [if_neg c16] at h ⊢
 by_cases c28 : kd = 28
 ·subst c28
  simp only [show ¬ ((28 : Int) = 0 ∨ (28 : Int) = 1 ∨ (28 : Int) = 30) by decide, show ¬ ((28 : Int) = 2) by decide, show ¬ ((28 : Int) = 8) by decide, show ¬ ((28 : Int) = 4) by decide, show ¬ ((28 : Int) = 5) by decide, show ¬ ((28 : Int) = 17) by decide, c16, if_true, if_false, Bool.and_eq_true, decide_eq_true_eq, Bool.not_eq_true'] at h g1 ⊢
  obtain ⟨⟨⟨⟨rfl, rfl⟩, rfl⟩, rfl⟩, rfl⟩ := g1
  have h1 := rd_at (s := []) h.left
  have h2 : At b (p + 1) ([c, (d.length : Int)].flatMap wn ++ d) := h.right
  obtain ⟨k1, k2⟩ := nums_at h2
  obtain ⟨k3, k4⟩ := nums_at k2
  rw [List.flatMap_nil, List.nil_append] at k4
  unfold frameR
  simp only [h1, show ¬ ((28 : Int) = 0 ∨ (28 : Int) = 1 ∨ (28 : Int) = 30) by decide, show ¬ ((28 : Int) = 2) by decide, show ¬ ((28 : Int) = 4) by decide, show ¬ ((28 : Int) = 5) by decide, show ¬ ((28 : Int) = 17) by decide, c16, if_true, if_false]
  rw [numR_at k1 g5]
  simp only [Except.bind]
  rw [numR_at k3 (may_len g6)]
  simp only
  rw [takeR_at k4]
  simp only [List.flatMap_cons, List.flatMap_nil, List.length_append, List.length_nil, List.length_singleton]
  congr 2
  omega
 rw [if_neg c28] at h ⊢
 simp only [c2, c8, c4, c5, c17, c16, c28, or_self, if_false] at g1
 by_cases c0 : kd = 0 ∨ kd = 1 ∨ kd = 30
 ·rw [if_pos c0] at g1
  simp only [Bool.and_eq_true, decide_eq_true_eq, Bool.not_eq_true'] at g1
  obtain ⟨⟨⟨⟨⟨⟨rfl, rfl⟩, rfl⟩, rfl⟩, rfl⟩, rfl⟩, rfl⟩ := g1
  have h1 := rd_at (s := []) h
  unfold frameR
  simp only [h1]
  rw [if_pos c0]
  rfl
 ·rw [if_neg c0] at g1; cases g1
end Go.Proofs.Ytpdchohbmmfemaa.X
