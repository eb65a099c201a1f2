import Derived.Test.YtcbpgbfbffnogaaGreatzEy5
namespace Go.Proofs.YtcbpgbfbffnogaaGreatW.Ex
open Go Go.RowKit Go.Proofs.YtcbpgbfbffnogaaGreatW.Rx
set_option linter.unusedVariables false
set_option linter.unusedSimpArgs false
theorem unLf_self (l : Lf) (y : l.T) : unLf l (.v (l.V y)) = some y := by
 cases l <;> simp [Lf.V, unLf]
theorem unTup_vs : ∀ (ls : List Lf) (y : Tup ls), unTup ls (vs ls y) = some y
 | [], _ => rfl
 | l :: r, y => by
  have := unTup_vs r y.2
  simp only [vs, Tup.V, List.map_cons, unTup, unLf_self] at this ⊢
  rw [this]
section
variable {P : Program} {R : Ending → World → Prop} {pin : List (Nat × Nat)} {J : Jt} {Lu : Nat → Prop} {wu : World} {m : Nm} {h : AH} {e : SEff}
theorem app_ok {t ti ty : TypeId} {x y : Value} {s s' : HT} (hs : appX P hint s h t ti x y = some (s', e)) (hst : St m h Lu wu) (how : ∀ x ∈ e.owe, x.ok m) {k : Tup e.res.ls → XT} (hk : ∀ m2 L w, Mv m h Lu wu m2 (e.h ++ e.new.toList) L w → (k (e.res.tup m2 h.length)).ok P pin R J L w) : (XT.sem (.other (Builtin.append_ #[t, ti] ty #[x, y])) e.res.ls e.res.sh k).ok P pin R J Lu wu := by
 unfold appX at hs
 split at hs
 ·exact app0_ok (map_some' hs).2 hst hk
 ·cases hs
 ·replace hs := bif_o hs
  obtain ⟨hc, hs⟩ := hs
  obtain rfl := beq_e hc
  split at hs
  ·exact app1_ok (map_some' hs).2 hst how hk
  ·cases hs
 ·replace hs := bif_o hs
  obtain ⟨hc, hs⟩ := hs
  obtain rfl := beq_e hc
  split at hs
  ·exact app3_ok (map_some' hs).2 hst how hk
  ·cases hs
 ·replace hs := bif_o hs
  obtain ⟨hc, hs⟩ := hs
  obtain rfl := beq_e hc
  split at hs
  ·split at hs
   ·exact app2_ok (map_some' hs).2 hst how hk
   ·cases hs
  ·cases hs
 ·cases hs
theorem conv_ok {a b : TypeId} {x : Value} {s s' : HT} (hs : convX P hint s h a b x = some (s', e)) (hst : St m h Lu wu) (how : ∀ x ∈ e.owe, x.ok m) {k : Tup e.res.ls → XT} (hk : ∀ m2 L w, Mv m h Lu wu m2 (e.h ++ e.new.toList) L w → (k (e.res.tup m2 h.length)).ok P pin R J L w) : (XT.sem (.other (convert a b x)) e.res.ls e.res.sh k).ok P pin R J Lu wu := by
 unfold convX at hs
 split at hs
 ·cases hs
 ·rename_i p n c _
  cases hc : isStrT P b with
  | true =>
   rw [hc, cond_true] at hs
   split at hs
   ·replace hs := bif_o hs
    obtain ⟨hb, hs⟩ := hs
    exact b2s_ok hc (map_some' hs).2 hst how (ble_e hb) hk
   ·cases hs
  | false =>
   rw [hc, cond_false] at hs
   replace hs := bif_o hs
   obtain ⟨hab, hs⟩ := hs
   obtain rfl := beq_e hab
   split at hs
   ·exact b2b_ok (map_some' hs).2 hst how hk
   ·cases hs
 ·cases hs
theorem sh_of {r : SRes} {sh : Sh} (h : shOk sh r.ls.length = true) : sh = r.sh := by
 unfold shOk at h
 cases r <;> simp only [SRes.ls, List.length_cons, List.length_nil] at h <;> split at h <;> first | rfl | (cases h; done) | (rename_i e; cases e)
theorem sem_ok {o : SOp} {s s' : HT} {ls : List Lf} {sh : Sh} {k : Tup ls → XT} (hs : semX P hint s h o = some (s', e)) (hst : St m h Lu wu) (how : ∀ x ∈ e.owe, x.ok m) {x0 : Tup ls} (hx0 : unTup ls (e.res.vals m h.length) = some x0) (hsh : shOk sh ls.length = true)
  (hk : ∀ m2 x L w, Mv m h Lu wu m2 (e.h ++ e.new.toList) L w → unTup ls (e.res.vals m2 h.length) = some x → (k x).ok P pin R J L w) : (XT.sem o ls sh k).ok P pin R J Lu wu := by
 rw [SRes.vals_eq] at hx0
 obtain rfl := unTup_ls hx0
 obtain rfl := sh_of hsh
 have hk' : ∀ m2 L w, Mv m h Lu wu m2 (e.h ++ e.new.toList) L w → (k (e.res.tup m2 h.length)).ok P pin R J L w := fun m2 L w hm => hk m2 _ L w hm (by rw [SRes.vals_eq]; exact unTup_vs _ _)
 clear hk hx0 hsh
 unfold semX at hs
 split at hs
 ·exact sem_of rfl (box_ok (map_some' hs).2 hst hk')
 ·exact sem_of rfl (lit_ok (map_some' hs).2 hst hk')
 ·exact sem_of rfl (mk_ok (map_some' hs).2 hst hk')
 ·rename_i ts ty xs
  split at hs
  ·rename_i t ti x y h1 h2
   have e1 : ts = #[t, ti] := by rw [← h1]
   have e2 : xs = #[x, y] := by rw [← h2]
   subst e1 e2
   exact sem_of rfl (app_ok hs hst how hk')
  ·cases hs
 ·rename_i ts ty xs
  split at hs
  ·rename_i t ti x y h1 h2
   have e1 : ts = #[t, ti] := by rw [← h1]
   have e2 : xs = #[x, y] := by rw [← h2]
   subst e1 e2
   replace hs := bif_o hs
   obtain ⟨hc, hs⟩ := hs
   obtain rfl := beq_e hc
   refine sem_of rfl ?_
   unfold cpyX at hs
   split at hs
   ·split at hs
    ·cases hs
    ·rename_i n hn
     split at hs
     ·split at hs
      ·exact cpy1_ok hn (map_some' hs).2 hst how hk'
      ·cases hs
     ·cases hs
   ·cases hs
  ·cases hs
 ·rename_i ts ty xs
  split at hs
  ·rename_i t q h1 h2
   have e1 : ts = #[t] := by rw [← h1]
   have e2 : xs = #[.map q] := by rw [← h2]
   subst e1 e2
   replace hs := bif_o hs
   obtain ⟨hc, hs⟩ := hs
   split at hs
   ·exact sem_of rfl (mlen_ok hc (map_some' hs).2 hst how hk')
   ·cases hs
  ·cases hs
 ·obtain ⟨hc, hs⟩ := bif_some hs
  cases hs
  exact sem_of rfl (mmk_ok hst hk')
 ·replace hs := bif_o hs
  obtain ⟨hc, hs⟩ := hs
  split at hs
  ·exact sem_of rfl (mset_ok hc (map_some' hs).2 hst how hk')
  ·cases hs
 ·exact sem_of rfl (conv_ok hs hst how hk')
 ·cases hs
end
theorem flat_inj {α : Type} (sz : Nat) : ∀ {a b : List (List α)}, (∀ r ∈ a, r.length = sz) → (∀ r ∈ b, r.length = sz) → a.length = b.length → b.flatten = a.flatten → b = a
 | [], [], _, _, _, _ => rfl
 | x :: r, y :: s, ha, hb, hl, h => by
  simp only [List.flatten_cons] at h
  obtain ⟨h1, h2⟩ := List.append_inj h (by rw [hb y (by simp), ha x (by simp)])
  rw [h1, flat_inj sz (fun r hr => ha r (by simp [hr])) (fun r hr => hb r (by simp [hr])) (by simpa using hl) h2]
 | [], _ :: _, _, _, hl, _ => by cases hl
 | _ :: _, [], _, _, hl, _ => by cases hl
theorem alike_l (nw : Bool) (x y : Ob) : (alike nw x y).1 = .dead ∨ ((alike nw x y).1 = x ∧ x ≠ .dead) := by
 unfold alike
 split
 ·cases (_ && _ : Bool)
  ·exact Or.inl rfl
  ·exact Or.inr ⟨rfl, by simp⟩
 ·cases (_ && _ : Bool)
  ·exact Or.inl rfl
  ·exact Or.inr ⟨rfl, by simp⟩
 ·cases (Nat.beq _ _)
  ·exact Or.inl rfl
  ·exact Or.inr ⟨rfl, by simp⟩
 ·exact Or.inl rfl
theorem alike_r {m : Nm} {nw : Bool} {x y : Ob} (h : ∀ e ∈ (alike nw x y).2, e.ok m) : (alike nw x y).1 = .dead ∨ (y ≠ .dead ∧ ∀ (L : Nat → Prop) (w : World) (b o c : Nat), ObAt L w b o c y → ObAt L w b o c (alike nw x y).1) := by
 unfold alike at h ⊢
 split
 ·rename_i e sz rows e' sz' rows'
  dsimp only at h
  cases hc : (Nat.beq e e' && Nat.beq sz sz' && Nat.beq rows.length rows'.length && rows.all (fun r => Nat.beq r.length sz) && (!nw || scals rows)) with
  | false => exact Or.inl rfl
  | true =>
   rw [hc] at h
   simp only [Bool.and_eq_true] at hc
   obtain ⟨⟨⟨⟨h1, h2⟩, h3⟩, h4⟩, _⟩ := hc
   obtain rfl := beq_e h1
   obtain rfl := beq_e h2
   have h5 : rows'.flatten = rows.flatten := h _ (List.mem_singleton.2 rfl)
   refine Or.inr ⟨by simp, fun L w b o c ho => ?_⟩
   obtain ⟨hp, xs, e1, h6⟩ := ho
   have e2 : rows' = rows := flat_inj sz (fun r hr => beq_e (List.all_eq_true.1 h4 r hr)) (fun r hr => by
    rw [← e1] at hr
    obtain ⟨z, _, rfl⟩ := List.mem_map.1 hr
    exact z.2.1) (beq_e h3) h5
   subst e2
   exact ⟨hp, xs, e1, h6⟩
 ·rename_i sz rows sz' rows'
  dsimp only at h
  cases hc : (Nat.beq sz sz' && Nat.beq rows.length rows'.length && (!nw || scals rows)) with
  | false => exact Or.inl rfl
  | true =>
   rw [hc] at h
   have h5 : rows'.flatten = rows.flatten := h _ (List.mem_singleton.2 rfl)
   refine Or.inr ⟨by simp, fun L w b o c ho => ?_⟩
   obtain ⟨h6, h7⟩ := ho
   rw [h5] at h6 h7
   exact ⟨h6, h7⟩
 ·rename_i n n'
  cases hc : Nat.beq n n' with
  | false => exact Or.inl rfl
  | true =>
   obtain rfl := beq_e hc
   exact Or.inr ⟨by simp, fun L w b o c ho => ho⟩
 ·exact Or.inl rfl
theorem merge_l : ∀ (k : Nat) (a b : AH), a.length = b.length → ∀ (i : Nat) (ob : Ob), (merge k a b).1[i]? = some ob → ob = .dead ∨ (a[i]? = some ob ∧ ob ≠ .dead)
 | _, [], _, _, i, ob, h => by simp [merge] at h
 | k, x :: r, y :: s, hl, i, ob, h => by
  simp only [merge] at h
  cases i with
  | zero =>
   simp only [List.getElem?_cons_zero, Option.some.injEq] at h
   subst h
   rcases alike_l (Nat.beq k 0) x y with h1 | ⟨h1, h2⟩
   ·exact Or.inl h1
   ·exact Or.inr ⟨by rw [h1]; rfl, by rw [h1]; exact h2⟩
  | succ i => exact merge_l (k - 1) r s (by simpa using hl) i ob h
 | _, _ :: _, [], hl, _, _, _ => by cases hl
theorem merge_r {m : Nm} : ∀ (k : Nat) (a b : AH), a.length = b.length → (∀ e ∈ (merge k a b).2, e.ok m) → ∀ (i : Nat) (ob : Ob), (merge k a b).1[i]? = some ob → ob = .dead ∨ ∃ o, b[i]? = some o ∧ o ≠ .dead ∧ ∀ (L : Nat → Prop) (w : World) (bb off c : Nat), ObAt L w bb off c o → ObAt L w bb off c ob
 | _, [], _, _, _, i, ob, h => by simp [merge] at h
 | k, x :: r, y :: s, hl, ho, i, ob, h => by
  simp only [merge] at h ho
  cases i with
  | zero =>
   simp only [List.getElem?_cons_zero, Option.some.injEq] at h
   subst h
   rcases alike_r (m := m) (nw := Nat.beq k 0) (x := x) (y := y) (fun e he => ho e (by simp [he])) with h1 | ⟨h1, h2⟩
   ·exact Or.inl h1
   ·exact Or.inr ⟨y, rfl, h1, h2⟩
  | succ i => exact merge_r (k - 1) r s (by simpa using hl) (fun e he => ho e (by simp [he])) i ob h
 | _, _ :: _, [], hl, _, _, _, _ => by cases hl
theorem St.sub {m : Nm} {a z : AH} {L : Nat → Prop} {w : World} (hst : St m a L w) (hl : z.length = a.length) (hz : ∀ (i : Nat) (ob : Ob), z[i]? = some ob → ob = .dead ∨ ∃ o, a[i]? = some o ∧ o ≠ .dead ∧ ∀ (L : Nat → Prop) (w : World) (b off c : Nat), ObAt L w b off c o → ObAt L w b off c ob) : St m z L w := by
 refine (hst.go (B := fun _ => False) (fine_up (Fine.refl L w) fun b hb => Or.inl hb) (fun q hq => Or.inl hq) z hl (fun b hb => hb.elim) (fun j ob hj => ?_)).st
 rcases hz j ob hj with h1 | ⟨o, h1, h2, h3⟩
 ·exact Or.inl h1
 ·exact Or.inr ⟨o, h1, h2, Or.inr (h3 _ _ _ _ _ (hst.holds j o h1))⟩
theorem join_ok {m : Nm} {k : Nat} {sh : Sh} {les : List Nat} {ex : Out} {q : Nat} {L : Nat → Prop} {w : World} : ∀ {os : List Outc} {xs : List AV} {h1 : AH} {owe : List Owe}, joinO k sh les ex q os = some (xs, h1, owe) → (∀ x ∈ owe, x.ok m) → ∀ o ∈ os, St m o.2.2 L w → St m h1 L w ∧ ∃ ys, leavesOf sh les ex q o = some ys ∧ AV.gs id ys = AV.gs id xs
 | [], _, _, _, h, _, _, _, _ => by cases h
 | [o], xs, h1, owe, h, how, p, hp, hst => by
  simp only [joinO] at h
  split at h
  ·rename_i ys hl
   cases h
   rw [List.mem_singleton.1 hp] at hst ⊢
   exact ⟨hst, _, hl, rfl⟩
  ·cases h
 | o :: o2 :: r, xs, h1, owe, h, how, p, hp, hst => by
  simp only [joinO] at h
  split at h
  ·rename_i ys ys' h2 owe2 e1 e2
   obtain ⟨hc, h⟩ := bif_some h
   cases h
   simp only [Bool.and_eq_true] at hc
   have hl := beq_e hc.2
   have hm := merge_len k h2 o.2.2 hl.symm
   have hv := how _ (List.mem_append_left _ List.mem_cons_self)
   rcases List.mem_cons.1 hp with rfl | hp
   ·refine ⟨hst.sub (by rw [hm]; exact hl.symm) (merge_r (m := m) k h2 _ hl.symm (fun e he => how e (by simp [he]))), _, e1, hv⟩
   ·obtain ⟨g1, g2⟩ := join_ok e2 (fun x hx => how x (by simp [hx])) p hp hst
    refine ⟨g1.sub hm (fun i ob hi => ?_), g2⟩
    rcases merge_l k h2 _ hl.symm i ob hi with h | ⟨h, hne⟩
    ·exact Or.inl h
    ·exact Or.inr ⟨ob, h, hne, fun _ _ _ _ _ h => h⟩
  ·cases h
theorem parts_g (ρ : Nat → Nat) : ∀ (l : List (Bool × Nat)) (vs : List AV) (xs : List AV) (rest : List Value), unParts l vs = some xs → AV.gs ρ (Sh.parts l ((AV.gs id xs ++ rest).map .v)) = AV.gs id vs
 | [], [], xs, rest, h => by cases h; rfl
 | (true, n) :: r, .agg cs :: ys, xs, rest, h => by
  simp only [unParts] at h
  obtain ⟨hc, h⟩ := bif_o h
  obtain ⟨zs, hz, rfl⟩ := Option.map_eq_some_iff.1 h
  have hn := beq_e hc
  have ih := parts_g ρ r ys zs rest hz
  have hl : (AV.gs id cs).length = n := by rw [gs_len]; exact hn
  simp only [Sh.parts, if_true, AV.gs, AV.g, gs_append, List.append_assoc]
  rw [← List.map_take, ← List.map_drop, List.take_append_of_le_length (by omega), List.take_of_length_le (by omega), List.drop_append_of_le_length (by omega), List.drop_of_length_le (by omega), List.nil_append, ih, gs_v]
 | (false, n) :: r, y :: ys, xs, rest, h => by
  simp only [unParts] at h
  obtain ⟨hc, h⟩ := bif_o h
  obtain ⟨zs, hz, rfl⟩ := Option.map_eq_some_iff.1 h
  obtain rfl := beq_e hc
  have ih := parts_g ρ r ys zs rest hz
  simp only [Sh.parts, Bool.false_eq_true, if_false, AV.gs, List.cons_append, List.map_cons, List.headD_cons, AV.g, List.drop_succ_cons, List.drop_zero]
  rw [ih]
 | [], _ :: _, _, _, h => by cases h
 | (true, _) :: _, [], _, _, h => by cases h
 | (false, _) :: _, [], _, _, h => by cases h
 | (true, _) :: _, .v _ :: _, _, _, h => by cases h
 | (true, _) :: _, .p _ _ :: _, _, _, h => by cases h
 | (true, _) :: _, .tup _ :: _, _, _, h => by cases h
 | (true, _) :: _, .fn _ _ _ :: _, _, _, h => by cases h
theorem sh_g (ρ : Nat → Nat) {sh : Sh} {v : AV} {xs : List AV} (rest : List Value) (h : unSh sh v = some xs) : (sh.av ((AV.gs id xs ++ rest).map .v)).g ρ = v.g id := by
 unfold unSh at h
 split at h
 ·cases h
  simp [Sh.av, AV.gs, AV.g]
 ·rename_i n cs
  obtain ⟨hc, h⟩ := bif_some h
  subst h
  have hn := beq_e hc
  have hl : (AV.gs id cs).length = n := by rw [gs_len]; exact hn
  simp only [Sh.av, AV.g]
  rw [← List.map_take, List.take_append_of_le_length (by omega), List.take_of_length_le (by omega), gs_v]
 ·rename_i l vs
  simp only [Sh.av, AV.g]
  rw [parts_g ρ l vs xs rest h]
 ·cases h
theorem back_ok {ρ ρ' : Nat → Nat} {L : Nat → Prop} {w : World} : ∀ (i : Nat) (ex out : Out) (les : List Nat), backOk i ex out les = true → Outs ρ' L w out → (∀ j x, ex[j]? = some x → ρ' (i + j) = ρ x.1) → out.all (fun x => AV.wfs (fun _ => false) x.2.1) = true → Back ρ w ex (segs les (AV.gs id (out.flatMap fun x => x.2.1))) ∧ (out.flatMap fun x => x.2.1).length = les.sum
 | i, [], [], [], _, _, _, _ => ⟨trivial, rfl⟩
 | i, (k0, c0, T) :: r, (k, c, T') :: r', n :: les, h, ho, hρ, hw => by
  simp only [backOk, Bool.and_eq_true] at h
  obtain ⟨⟨⟨h1, h2⟩, h3⟩, h4⟩ := h
  obtain rfl := beq_e h1
  obtain rfl := beq_e h2
  obtain rfl := beq_e h3
  simp only [List.all_cons, Bool.and_eq_true] at hw
  obtain ⟨i1, i2⟩ := back_ok (k + 1) r r' les h4 ho.2 (fun j x hj => by have := hρ (j + 1) x hj; rwa [show k + 1 + j = k + (j + 1) by omega]) hw.2
  have hk : ρ' k = ρ k0 := hρ 0 (k0, c0, T) rfl
  have hlen : (AV.gs id c).length = c.length := gs_len id c
  refine ⟨?_, by rw [List.flatMap_cons, List.length_append, i2, List.sum_cons]⟩
  simp only [List.flatMap_cons, gs_append, segs]
  rw [List.take_append_of_le_length (by omega), List.take_of_length_le (by omega), List.drop_append_of_le_length (by omega), List.drop_of_length_le (by omega), List.nil_append]
  refine ⟨?_, i1⟩
  rw [← hk, ← gs_none (ρ := ρ') c hw.1 id]
  exact ho.1.2
 | _, [], _ :: _, _, h, _, _, _ => by cases h
 | _, _ :: _, [], _, h, _, _, _ => by cases h
 | _, [], [], _ :: _, h, _, _, _ => by cases h
 | _, _ :: _, _ :: _, [], h, _, _, _ => by cases h
end Go.Proofs.YtcbpgbfbffnogaaGreatW.Ex
