import Derived.Test.YtcbpgbfbffnogaaGreatzEy4
namespace Go.Proofs.YtcbpgbfbffnogaaGreatW.Ex
open Go Go.RowKit Go.Proofs.YtcbpgbfbffnogaaGreatW.Rx
set_option linter.unusedVariables false
set_option linter.unusedSimpArgs false
theorem bif_o {α : Type} {c : Bool} {a : Option α} {b : α} (h : (bif c then a else none) = some b) : c = true ∧ a = some b := by
 cases c
 ·cases h
 ·exact ⟨rfl, h⟩
theorem hint_some {s s' : HT} {a : Option Addr} {i off : Nat} (h : hint s a = some ((i, off), s')) : s = .at i off s' := by
 cases s with
 | «at» i' o' r => simp only [hint, Option.some.injEq, Prod.mk.injEq] at h; obtain ⟨⟨rfl, rfl⟩, rfl⟩ := h; rfl
 | nil => cases h
 | sub a b => cases h
section
variable {P : Program} {T : Tab} {m : Nm} {n : Nat} {env : List Way} {s : HT} {h : AH} {ob ob' : List Owe} {os : List Outc}
theorem x_need {c : Bool} {k : XT} (hx : exec P T m (n + 1) env s h ob (.need c k) = some (os, ob')) : c = true ∧ exec P T m n env s h ob k = some (os, ob') := by
 simp only [exec] at hx
 exact bif_o hx
theorem x_keep {a : Option Addr} {xs : List AV} {k : XT} (hx : exec P T m (n + 1) env s h ob (.keep a xs k) = some (os, ob')) : ∃ i off s' sz rows, s = .at i off s' ∧ getR h i = some (sz, rows) ∧ (AV.wfs (fun _ => false) xs && Nat.ble (off + xs.length) rows.flatten.length) = true ∧ exec P T m n env s' h (.at a i off :: .vals (AV.gs id xs) ((rows.flatten.drop off).take xs.length) :: ob) k = some (os, ob') := by
 simp only [exec] at hx
 split at hx
 ·rename_i i off s' hh
  split at hx
  ·rename_i sz rows hg
   obtain ⟨hc, hx⟩ := bif_o hx
   exact ⟨i, off, s', sz, rows, hint_some hh, hg, hc, hx⟩
  ·cases hx
 ·cases hx
theorem x_ld {a : Option Addr} {ls : List Lf} {k : Tup ls → XT} (hx : exec P T m (n + 1) env s h ob (.ld a ls k) = some (os, ob')) : ∃ i off s' sz rows x, s = .at i off s' ∧ getR h i = some (sz, rows) ∧ unTup ls (((rows.flatten.drop off).take ls.length).map AV.v) = some x ∧ Nat.blt 0 ls.length = true ∧ exec P T m n env s' h (.at a i off :: ob) (k x) = some (os, ob') := by
 simp only [exec, tupForce_eq] at hx
 split at hx
 ·rename_i i off s' hh
  split at hx
  ·rename_i sz rows hg
   split at hx
   ·rename_i x hu
    obtain ⟨hc, hx⟩ := bif_o hx
    exact ⟨i, off, s', sz, rows, x, hint_some hh, hg, hu, hc, hx⟩
   ·cases hx
  ·cases hx
 ·cases hx
theorem x_sto {a : Option Addr} {xs : List AV} {ex : Out} {k : XT} (hx : exec P T m (n + 1) env s h ob (.sto a xs ex k) = some (os, ob')) : ∃ i off s' e sz rows row, s = .at i off s' ∧ getB h i = some (e, sz, rows) ∧ rows[off / sz]? = some row ∧ (AV.wfs (fun _ => false) xs && ex.isEmpty && Nat.blt 0 xs.length && Nat.ble (off % sz + xs.length) sz && oneAll (AV.gs id xs)) = true ∧
  exec P T m n env s' (h.set i (.blk e sz (rows.set (off / sz) (row.take (off % sz) ++ AV.gs id xs ++ row.drop (off % sz + xs.length))))) (.at a i off :: ob) k = some (os, ob') := by
 simp only [exec, rowsForce_eq, listForce_eq] at hx
 split at hx
 ·rename_i i off s' hh
  split at hx
  ·rename_i e sz rows hg
   split at hx
   ·rename_i row hr
    obtain ⟨hc, hx⟩ := bif_o hx
    exact ⟨i, off, s', e, sz, rows, row, hint_some hh, hg, hr, hc, hx⟩
   ·cases hx
  ·cases hx
 ·cases hx
theorem x_sem {o : SOp} {ls : List Lf} {sh : Sh} {k : Tup ls → XT} (hx : exec P T m (n + 1) env s h ob (.sem o ls sh k) = some (os, ob')) : ∃ s' e x, semX P hint s h o = some (s', e) ∧ unTup ls (e.res.vals m h.length) = some x ∧ (shOk sh ls.length && effOk h.length e) = true ∧ exec P T m n env s' (e.h ++ e.new.toList) (e.owe ++ ob) (k x) = some (os, ob') := by
 simp only [exec, tupForce_eq, newForce_eq, listForce_eq, natForce_eq] at hx
 split at hx
 ·rename_i s' e hs
  split at hx
  ·rename_i x hu
   obtain ⟨hc, hx⟩ := bif_o hx
   exact ⟨s', e, x, hs, hu, hc, hx⟩
  ·cases hx
 ·cases hx
theorem x_again {lvl : Nat} {ls : List Lf} {x : Tup ls} (hx : exec P T m (n + 1) env s h ob (.again lvl ls x) = some (os, ob')) : ∃ e env', find env lvl = some (e, env') ∧ ∃ q : ls = e.ls, exec P T m n env' s h ob (e.body (q ▸ x)) = some (os, ob') := by
 simp only [exec, tupForce_eq] at hx
 split at hx
 ·rename_i e env' hf
  split at hx
  ·rename_i q _
   exact ⟨e, env', hf, q, hx⟩
  ·cases hx
 ·cases hx
theorem x_both {a b : XT} (hx : exec P T m (n + 1) env s h ob (.both a b) = some (os, ob')) : ∃ sa s' os1 ob1 os2, s = .sub sa s' ∧ exec P T m n env sa h [] a = some (os1, ob1) ∧ exec P T m n env s' h (ob1 ++ ob) b = some (os2, ob') ∧ os = os1 ++ os2 := by
 simp only [exec] at hx
 split at hx
 ·rename_i sa s'
  split at hx
  ·rename_i os1 ob1 h1
   split at hx
   ·rename_i os2 ob2 h2
    cases hx
    exact ⟨sa, s', os1, ob1, os2, rfl, h1, h2, rfl⟩
   ·cases hx
  ·cases hx
 ·cases hx
theorem x_call0 {f : FuncId} {args : List AV} {ex : Out} {sh : Sh} {ls : List Lf} {les : List Nat} {k : Tup ls → XT} (he : T.ext f = 0) (hx : exec P T m (n + 1) env s h ob (.call f args ex sh ls les k) = some (os, ob')) : ∃ sa s' fn os1 ob1 xs h1 owe x, s = .sub sa s' ∧ P.funcs[f]? = some fn ∧ callOk fn args ex = true ∧
  exec P T m n [] sa h [] (tree P (T.A f) (T.C f) fn (rens (posOf ex) args) (renOut (posOf ex) 0 ex)) = some (os1, ob1) ∧ joinO h.length sh les ex ls.length os1 = some (xs, h1, owe) ∧ unTup ls xs = some x ∧ exec P T m n env s' h1 (owe ++ (ob1 ++ ob)) (k x) = some (os, ob') := by
 simp only [exec, he, tupForce_eq] at hx
 split at hx
 ·rename_i sa s'
  split at hx
  ·rename_i fn hf
   obtain ⟨hc, hx⟩ := bif_o hx
   split at hx
   ·rename_i os1 ob1 h1
    split at hx
    ·rename_i xs h2 owe hj
     split at hx
     ·rename_i x hu
      exact ⟨sa, s', fn, os1, ob1, xs, h2, owe, x, rfl, hf, hc, h1, hj, hu, hx⟩
     ·cases hx
    ·cases hx
   ·cases hx
  ·cases hx
 ·cases hx
theorem x_call2 {f : FuncId} {args : List AV} {ex : Out} {sh : Sh} {ls : List Lf} {les : List Nat} {k : Tup ls → XT} (he : T.ext f = 2) (hx : exec P T m (n + 1) env s h ob (.call f args ex sh ls les k) = some (os, ob')) : ∃ sa s' obs tr os1 ob1 os2 xs h1 owe x, s = .sub sa s' ∧ T.mid f args = some (obs, tr) ∧ exec P T m n [] sa (h ++ obs) [] (tr (ptrs m h.length obs)) = some (os1, ob1) ∧ epis T f h.length os1 = some os2 ∧ joinO h.length sh les ex ls.length os2 = some (xs, h1, owe) ∧ unTup ls xs = some x ∧ ex.isEmpty = true ∧ exec P T m n env s' h1 (owe ++ (ob1 ++ ob)) (k x) = some (os, ob') := by
 simp only [exec, he, tupForce_eq] at hx
 split at hx
 ·rename_i sa s'
  split at hx
  ·rename_i obs tr ht
   split at hx
   ·rename_i os1 ob1 h1
    split at hx
    ·rename_i os2 hp
     split at hx
     ·rename_i xs h2 owe hj
      split at hx
      ·rename_i x hu
       obtain ⟨hc, hx⟩ := bif_o hx
       exact ⟨sa, s', obs, tr, os1, ob1, os2, xs, h2, owe, x, rfl, ht, h1, hp, hj, hu, hc, hx⟩
      ·cases hx
     ·cases hx
    ·cases hx
   ·cases hx
  ·cases hx
 ·cases hx
theorem x_call1 {f : FuncId} {args : List AV} {ex : Out} {sh : Sh} {ls : List Lf} {les : List Nat} {k : Tup ls → XT} (h0 : T.ext f ≠ 0) (h2 : T.ext f ≠ 2) (hx : exec P T m (n + 1) env s h ob (.call f args ex sh ls les k) = some (os, ob')) : ∃ s' r owe xs x, extX hint s h (T.ext f) args = some (s', r, owe) ∧ leavesOf sh les ex ls.length (r, renOut id 0 ex, h) = some xs ∧ unTup ls xs = some x ∧ exec P T m n env s' h (owe ++ ob) (k x) = some (os, ob') := by
 simp only [exec] at hx
 split at hx
 ·rename_i e; exact absurd e h0
 ·rename_i e; exact absurd e h2
 ·rename_i q _ e
  rw [e]
  split at hx
  ·rename_i s' r owe hs
   split at hx
   ·rename_i xs hl
    split at hx
    ·rename_i x hu
     exact ⟨s', r, owe, xs, x, hs, hl, hu, hx⟩
    ·cases hx
   ·cases hx
  ·cases hx
theorem merge_len : ∀ (k : Nat) (a b : AH), a.length = b.length → (merge k a b).1.length = a.length
 | _, [], _, _ => rfl
 | k, x :: r, y :: s, h => by
  have := merge_len (k - 1) r s (by simpa using h)
  simp only [merge, List.length_cons]
  rw [this]
 | _, _ :: _, [], h => by cases h
theorem join_len {k : Nat} {sh : Sh} {les : List Nat} {ex : Out} {q : Nat} : ∀ {os : List Outc} {xs : List AV} {h1 : AH} {owe : List Owe}, joinO k sh les ex q os = some (xs, h1, owe) → os ≠ [] ∧ ∀ o ∈ os, o.2.2.length = h1.length
 | [], _, _, _, h => by cases h
 | [o], xs, h1, owe, h => by
  simp only [joinO] at h
  split at h
  ·cases h; exact ⟨by simp, fun o ho => by rw [List.mem_singleton.1 ho]⟩
  ·cases h
 | o :: o2 :: r, xs, h1, owe, h => by
  simp only [joinO] at h
  split at h
  ·rename_i ys ys' h2 owe2 e1 e2
   obtain ⟨hc, h⟩ := bif_some h
   cases h
   simp only [Bool.and_eq_true] at hc
   obtain ⟨_, ih⟩ := join_len e2
   have hl := beq_e hc.2
   have hm := merge_len k h2 o.2.2 hl.symm
   refine ⟨by simp, fun p hp => ?_⟩
   rcases List.mem_cons.1 hp with rfl | hp
   ·rw [hm]; exact hl
   ·rw [hm]; exact ih p hp
  ·cases h
theorem epis_mem {f : FuncId} {q : Nat} : ∀ {os os2 : List Outc}, epis T f q os = some os2 → (∀ o ∈ os, ∃ v, T.epi f o.2.2 q = some v ∧ (v, [], o.2.2) ∈ os2 ∧ o.1 = .tup [])
 | [], os2, h => by cases h; exact fun o ho => (by cases ho)
 | o :: r, os2, h => by
  unfold epis at h
  split at h
  ·rename_i e; cases e
  ·rename_i hh r' e
   cases e
   split at h
   ·rename_i v l h1 h2
    cases h
    have i1 := epis_mem h2
    intro o ho
    rcases List.mem_cons.1 ho with rfl | ho
    ·exact ⟨v, h1, by simp, rfl⟩
    ·obtain ⟨v', e1, e2, e3⟩ := i1 o ho
     exact ⟨v', e1, List.mem_cons_of_mem _ e2, e3⟩
   ·cases h
  ·cases h
end
section
variable {P : Program} {T : Tab}
theorem exec_up (m : Nm) : ∀ (n : Nat) {env : List Way} {s : HT} {h : AH} {ob ob' : List Owe} {os : List Outc} {t : XT}, exec P T m n env s h ob t = some (os, ob') → os ≠ [] ∧ (∀ o ∈ os, h.length ≤ o.2.2.length) ∧ ∀ x ∈ ob, x ∈ ob'
 | 0, _, _, _, _, _, _, _, hx => by cases hx
 | n + 1, env, s, h, ob, ob', os, t, hx => by
  cases t with
  | done r out =>
   simp only [exec] at hx
   cases hx
   exact ⟨by simp, fun o ho => by rw [List.mem_singleton.1 ho]; exact Nat.le_refl _, fun x hx => hx⟩
  | bad _ => cases hx
  | die _ => cases hx
  | need c k => exact exec_up m n (x_need hx).2
  | keep a xs k =>
   obtain ⟨i, off, s', sz, rows, _, _, _, hx⟩ := x_keep hx
   obtain ⟨h1, h2, h3⟩ := exec_up m n hx
   exact ⟨h1, h2, fun x hx => h3 x (by simp [hx])⟩
  | ld a ls k =>
   obtain ⟨i, off, s', sz, rows, x, _, _, _, _, hx⟩ := x_ld hx
   obtain ⟨h1, h2, h3⟩ := exec_up m n hx
   exact ⟨h1, h2, fun x hx => h3 x (by simp [hx])⟩
  | sto a xs ex k =>
   obtain ⟨i, off, s', e, sz, rows, row, _, _, _, _, hx⟩ := x_sto hx
   obtain ⟨h1, h2, h3⟩ := exec_up m n hx
   exact ⟨h1, fun o ho => by have := h2 o ho; rwa [List.length_set] at this, fun x hx => h3 x (by simp [hx])⟩
  | sem o ls sh k =>
   obtain ⟨s', e, x, _, _, hc, hx⟩ := x_sem hx
   obtain ⟨h1, h2, h3⟩ := exec_up m n hx
   simp only [Bool.and_eq_true, effOk] at hc
   have hl := beq_e hc.2.1
   exact ⟨h1, fun o ho => by have := h2 o ho; rw [List.length_append] at this; omega, fun x hx => h3 x (by simp [hx])⟩
  | loop ls x lvl body =>
   simp only [exec] at hx
   exact exec_up m n hx
  | again lvl ls x =>
   obtain ⟨e, env', _, q, hx⟩ := x_again hx
   exact exec_up m n hx
  | cut ls lvl body k =>
   simp only [exec] at hx
   exact exec_up m n hx
  | both a b =>
   obtain ⟨sa, s', os1, ob1, os2, _, ha, hb, rfl⟩ := x_both hx
   obtain ⟨a1, a2, a3⟩ := exec_up m n ha
   obtain ⟨b1, b2, b3⟩ := exec_up m n hb
   refine ⟨by simp [a1], fun o ho => ?_, fun x hx => b3 x (by simp [hx])⟩
   rcases List.mem_append.1 ho with ho | ho
   ·exact a2 o ho
   ·exact b2 o ho
  | call f args ex sh ls les k =>
   by_cases h0 : T.ext f = 0
   ·obtain ⟨sa, s', fn, os1, ob1, xs, h1, owe, x, _, _, _, hc, hj, _, hx⟩ := x_call0 h0 hx
    obtain ⟨c1, c2, _⟩ := exec_up m n hc
    obtain ⟨h1', h2, h3⟩ := exec_up m n hx
    obtain ⟨_, j2⟩ := join_len hj
    obtain ⟨o1, ho1⟩ := List.exists_mem_of_ne_nil _ c1
    have hh : h.length ≤ h1.length := by rw [← j2 o1 ho1]; exact c2 o1 ho1
    exact ⟨h1', fun o ho => Nat.le_trans hh (h2 o ho), fun x hx => h3 x (by simp [hx])⟩
   ·by_cases h2 : T.ext f = 2
    ·obtain ⟨sa, s', obs, tr, os1, ob1, os2, xs, h1, owe, x, _, _, hc, hp, hj, _, _, hx⟩ := x_call2 h2 hx
     obtain ⟨c1, c2, _⟩ := exec_up m n hc
     obtain ⟨h1', h2', h3⟩ := exec_up m n hx
     obtain ⟨_, j2⟩ := join_len hj
     obtain ⟨o1, ho1⟩ := List.exists_mem_of_ne_nil _ c1
     obtain ⟨v, _, hv, _⟩ := epis_mem hp o1 ho1
     have := j2 _ hv
     have := c2 o1 ho1
     rw [List.length_append] at this
     dsimp only at *
     exact ⟨h1', fun o ho => by have := h2' o ho; omega, fun x hx => h3 x (by simp [hx])⟩
    ·obtain ⟨s', r, owe, xs, x, _, _, _, hx⟩ := x_call1 h0 h2 hx
     obtain ⟨h1', h2', h3⟩ := exec_up m n hx
     exact ⟨h1', h2', fun x hx => h3 x (by simp [hx])⟩
theorem ptrs_agree {m m' : Nm} : ∀ (obs : List Ob) (k N : Nat), k + obs.length ≤ N → Agree N m m' → ptrs m' k obs = ptrs m k obs
 | [], _, _, _, _ => rfl
 | o :: r, k, N, h, ha => by
  simp only [List.length_cons] at h
  obtain ⟨h1, h2, _⟩ := ha k (by omega)
  simp only [ptrs, Nm.at, h1, h2]
  rw [ptrs_agree r (k + 1) N (by omega) ha]
theorem vals_agree {m m' : Nm} {e : SEff} {q N : Nat} (hc : effOk q e = true) (hN : (e.h ++ e.new.toList).length ≤ N) (ha : Agree N m m') : e.res.vals m' q = e.res.vals m q := by
 simp only [effOk, Bool.and_eq_true] at hc
 obtain ⟨h1, h2⟩ := hc
 have h1 := beq_e h1
 cases hn : e.new with
 | none =>
  rw [hn] at h2
  cases hr : e.res <;> rw [hr] at h2 <;> first | rfl | cases h2
 | some o =>
  rw [hn] at hN
  simp at hN
  obtain ⟨a1, a2, a3⟩ := ha q (by omega)
  cases e.res <;> simp [SRes.vals, a1, a2, a3]
theorem exec_loc {m m' : Nm} {N : Nat} (ha : Agree N m m') : ∀ (n : Nat) {env : List Way} {s : HT} {h : AH} {ob ob' : List Owe} {os : List Outc} {t : XT}, exec P T m n env s h ob t = some (os, ob') → (∀ o ∈ os, o.2.2.length ≤ N) → exec P T m' n env s h ob t = some (os, ob')
 | 0, _, _, _, _, _, _, _, hx, _ => by cases hx
 | n + 1, env, s, h, ob, ob', os, t, hx, hN => by
  cases t with
  | done r out => exact hx
  | bad _ => cases hx
  | die _ => cases hx
  | need c k =>
   obtain ⟨rfl, hx⟩ := x_need hx
   simp only [exec, cond_true]
   exact exec_loc ha n hx hN
  | keep a xs k =>
   obtain ⟨i, off, s', sz, rows, rfl, h1, h2, hx⟩ := x_keep hx
   simp only [exec, hint, h1, h2, cond_true]
   exact exec_loc ha n hx hN
  | ld a ls k =>
   obtain ⟨i, off, s', sz, rows, x, rfl, h1, h2, h3, hx⟩ := x_ld hx
   simp only [exec, hint, h1, h2, h3, cond_true, tupForce_eq]
   exact exec_loc ha n hx hN
  | sto a xs ex k =>
   obtain ⟨i, off, s', e, sz, rows, row, rfl, h1, h2, h3, hx⟩ := x_sto hx
   simp only [exec, hint, h1, h2, h3, cond_true, rowsForce_eq, listForce_eq]
   exact exec_loc ha n hx hN
  | sem o ls sh k =>
   obtain ⟨s', e, x, h1, h2, h3, hx⟩ := x_sem hx
   obtain ⟨u1, u2, _⟩ := exec_up m n hx
   obtain ⟨o1, ho1⟩ := List.exists_mem_of_ne_nil _ u1
   have hv := vals_agree (by simp only [Bool.and_eq_true] at h3; exact h3.2) (Nat.le_trans (u2 o1 ho1) (hN o1 ho1)) ha
   simp only [exec, h1, natForce_eq, hv, h2, h3, cond_true, tupForce_eq, newForce_eq, listForce_eq]
   exact exec_loc ha n hx hN
  | loop ls x lvl body =>
   simp only [exec] at hx ⊢
   exact exec_loc ha n hx hN
  | again lvl ls x =>
   obtain ⟨e, env', h1, rfl, hx⟩ := x_again hx
   simp only [exec, h1, tupForce_eq]
   split
   ·exact exec_loc ha n hx hN
   ·rename_i q _; exact absurd rfl q
  | cut ls lvl body k =>
   simp only [exec] at hx ⊢
   exact exec_loc ha n hx hN
  | both a b =>
   obtain ⟨sa, s', os1, ob1, os2, rfl, h1, h2, rfl⟩ := x_both hx
   have e1 := exec_loc ha n h1 (fun o ho => hN o (by simp [ho]))
   have e2 := exec_loc ha n h2 (fun o ho => hN o (by simp [ho]))
   simp only [exec, e1, e2]
  | call f args ex sh ls les k =>
   by_cases h0 : T.ext f = 0
   ·obtain ⟨sa, s', fn, os1, ob1, xs, h1, owe, x, rfl, hf, hc, h2, hj, hu, hx⟩ := x_call0 h0 hx
    obtain ⟨u1, u2, _⟩ := exec_up m n hx
    obtain ⟨o1, ho1⟩ := List.exists_mem_of_ne_nil _ u1
    have hh := Nat.le_trans (u2 o1 ho1) (hN o1 ho1)
    have e1 := exec_loc ha n h2 (fun o ho => by rw [(join_len hj).2 o ho]; exact hh)
    simp only [exec, h0, hf, hc, cond_true, e1, hj, hu, tupForce_eq]
    exact exec_loc ha n hx hN
   ·by_cases h2 : T.ext f = 2
    ·obtain ⟨sa, s', obs, tr, os1, ob1, os2, xs, h1, owe, x, rfl, ht, h2', hp, hj, hu, hem, hx⟩ := x_call2 h2 hx
     obtain ⟨u1, u2, _⟩ := exec_up m n hx
     obtain ⟨o1, ho1⟩ := List.exists_mem_of_ne_nil _ u1
     have hh := Nat.le_trans (u2 o1 ho1) (hN o1 ho1)
     have hb : ∀ o ∈ os1, o.2.2.length ≤ N := fun o ho => by
      obtain ⟨v, _, hv, _⟩ := epis_mem hp o ho
      have := (join_len hj).2 _ hv
      dsimp only at this
      omega
     obtain ⟨c1, c2, _⟩ := exec_up m n h2'
     obtain ⟨o2, ho2⟩ := List.exists_mem_of_ne_nil _ c1
     have e1 := exec_loc ha n h2' hb
     have e2 : ptrs m' h.length obs = ptrs m h.length obs := ptrs_agree obs _ N (by have := c2 o2 ho2; have := hb o2 ho2; rw [List.length_append] at *; omega) ha
     simp only [exec, h2, ht, e2, e1, hp, hj, hu, hem, cond_true, tupForce_eq]
     exact exec_loc ha n hx hN
    ·obtain ⟨s', r, owe, xs, x, h3, h4, h5, hx⟩ := x_call1 h0 h2 hx
     have e1 := exec_loc ha n hx hN
     simp only [exec]
     split
     ·rename_i e; exact absurd e h0
     ·rename_i e; exact absurd e h2
     ·rename_i q _ e
      rw [e] at h3
      simp only [h3, h4, h5]
      exact e1
end
end Go.Proofs.YtcbpgbfbffnogaaGreatW.Ex
