import Derived.Test.YtcbpgbfbffnogaaGreatzEy7
namespace Go.Proofs.YtcbpgbfbffnogaaGreatW.Ex
open Go Go.RowKit Go.Proofs.YtcbpgbfbffnogaaGreatW.Rx
set_option linter.unusedVariables false
set_option linter.unusedSimpArgs false
theorem at_add (m : Nm) (i off j : Nat) : (m.at i off).add j = (m.at i 0).add (off + j) := by
 unfold Nm.at Addr.add
 by_cases h0 : j = 0
 ·subst h0
  by_cases h1 : off = 0
  ·subst h1; simp
  ·simp [h1]
 ·rw [if_neg h0, if_neg (by omega)]
  simp; omega
theorem rens_id : ∀ l : List AV, rens id l = l := by
 intro l
 refine AV.rec_1 (motive_1 := fun x => ren id x = x) (motive_2 := fun l => rens id l = l) ?_ ?_ ?_ ?_ ?_ ?_ ?_ l
 ·intro x; rfl
 ·intro k o; rfl
 ·intro cs ih; simp only [ren, ih]
 ·intro cs ih; simp only [ren, ih]
 ·intro f a c iha ihc; simp only [ren, iha, ihc]
 ·rfl
 ·intro x r ihx ihr; simp only [rens, ihx, ihr]
theorem outs_ren {ρ ρc : Nat → Nat} {L : Nat → Prop} {w w2 : World} : ∀ (i : Nat) (ex : Out), (∀ (j : Nat) (x : Nat × List AV × TypeId), ex[j]? = some x → ρc (i + j) = ρ x.1) → (renOut id i ex).all (fun x => AV.wfs (fun _ => false) x.2.1) = true → Outs ρ L w ex → (∀ b, L b → w2.heap[b]? = w.heap[b]?) → Outs ρc L w2 (renOut id i ex)
 | _, [], _, _, _, _ => trivial
 | i, (k, c, T) :: r, h, hw, ho, hb => by
  simp only [renOut, List.all_cons, Bool.and_eq_true, rens_id] at hw
  simp only [renOut, rens_id]
  have hk : ρc i = ρ k := h 0 _ rfl
  refine ⟨⟨by rw [hk]; exact ho.1.1, ?_⟩, outs_ren (i + 1) r (fun j x hj => by have := h (j + 1) x hj; rwa [show i + 1 + j = i + (j + 1) by omega]) hw.2 ho.2 hb⟩
  rw [hk, hb _ ho.1.1, gs_none (ρ := ρc) c hw.1 ρ]
  exact ho.1.2
section
variable (P : Program) (T : Tab)
def ListRule (f : FuncId) : Prop := ∀ (a : Addr) (bm clock : Nat) (g : Value) (w : World), w.cell? a = some (.map (some bm)) → w.heap[bm]? = some (.map #[] clock) → Calls P f #[.pointer (some a), g] w fun e w2 => e = .returned (.slice none 0 0) ∧ Below w.heap.size w w2
def MidRule (f : FuncId) : Prop := ∀ (args : List AV) (obs : List Ob) (tr : List AV → XT), T.mid f args = some (obs, tr) → (∀ ρ, AV.gs ρ args = AV.gs id args) ∧ ∀ (m : Nm) (h : AH) (w : World) (Post : Ending → World → Prop), St m h (fun _ => False) w →
 (∀ m1 w1, Mv m h (fun _ => False) w m1 (h ++ obs) (fun _ => False) w1 → (tr (ptrs m1 h.length obs)).ok P [] (fun e w2 => e = .returned (.tuple #[]) ∧ ∃ m2 h2 v, T.epi f h2 h.length = some v ∧ Agree (h ++ obs).length m1 m2 ∧ St m2 h2 (fun _ => False) w2 ∧ ∀ w3, Fine (fun _ => False) w2 (fun _ => False) w3 → Post (.returned (v.g id)) w3) noJ (fun _ => False) w1) → Calls P f (AV.gs id args).toArray w Post
variable (S : Nat → Prop) (w0 : World) (k0 : Nat) (m0 : Nm) (G : Nm → Outc → Prop)
def Hyp (n : Nat) (env : List Way) (s : HT) (h : AH) (t : XT) (m : Nm) : Prop :=
 ∀ m', Agree h.length m m' → ∃ ob os ob', exec P T m' n env s h ob t = some (os, ob') ∧ (∀ x ∈ ob', x.ok m') ∧ ∀ o ∈ os, G m' o
def EnvOK (n : Nat) (env : List Way) (J : Jt) : Prop := ∀ lvl e env', find env lvl = some (e, env') → ∀ k s h m (x : Tup e.ls) L w, k < n → Hyp P T G k env' s h (e.body x) m → St m h L w → Fr S w0 k0 m0 m h L w → J lvl e.ls x L w
end
section
variable {P : Program} {T : Tab}
theorem hyp_step {G : Nm → Outc → Prop} {n n' : Nat} {env env' : List Way} {s s' : HT} {h h' : AH} {t t' : XT} {m m2 : Nm} (hH : Hyp P T G n env s h t m) (ha : Agree h.length m m2) (hl : h.length ≤ h'.length)
  (f : ∀ m', Agree h'.length m2 m' → ∀ ob os ob', exec P T m' n env s h ob t = some (os, ob') → ∃ ob1, exec P T m' n' env' s' h' ob1 t' = some (os, ob')) : Hyp P T G n' env' s' h' t' m2 := by
 intro m' ha'
 obtain ⟨ob, os, ob', h1, h2, h3⟩ := hH m' (ha.trans ha' hl)
 obtain ⟨ob1, h4⟩ := f m' ha' ob os ob' h1
 exact ⟨ob1, os, ob', h4, h2, h3⟩
theorem env_mono {S : Nat → Prop} {w0 : World} {k0 : Nat} {m0 : Nm} {G : Nm → Outc → Prop} {n n' : Nat} {env : List Way} {J : Jt} (h : EnvOK P T S w0 k0 m0 G n env J) (hn : n' ≤ n) : EnvOK P T S w0 k0 m0 G n' env J :=
 fun lvl e env' hf k s hh m x L w hk => h lvl e env' hf k s hh m x L w (by omega)
theorem env_cons {S : Nat → Prop} {w0 : World} {k0 : Nat} {m0 : Nm} {G : Nm → Outc → Prop} {n : Nat} {env : List Way} {J : Jt} {lvl : Nat} {ls : List Lf} {body : Tup ls → XT} {round : Bool} {F : (ls' : List Lf) → Tup ls' → (Nat → Prop) → World → Prop} (h : EnvOK P T S w0 k0 m0 G n env J)
  (hF : ∀ k s hh m (x : Tup ls) L w, k < n → Hyp P T G k (bif round then ⟨lvl, ls, body, round⟩ :: env else env) s hh (body x) m → St m hh L w → Fr S w0 k0 m0 m hh L w → F ls x L w) : EnvOK P T S w0 k0 m0 G n (⟨lvl, ls, body, round⟩ :: env) (J.set lvl F) := by
 intro lvl' e env' hf k s hh m x L w hk hH hst hfr
 simp only [find] at hf
 cases hc : Nat.beq lvl lvl' with
 | true =>
  rw [hc, cond_true] at hf
  obtain rfl := beq_e hc
  cases hf
  unfold Jt.set
  rw [if_pos rfl]
  exact hF k s hh m x L w hk hH hst hfr
 | false =>
  rw [hc, cond_false] at hf
  have hne : lvl' ≠ lvl := fun e => by rw [e, Nat.beq_refl] at hc; cases hc
  unfold Jt.set
  rw [if_neg hne]
  exact h lvl' e env' hf k s hh m x L w hk hH hst hfr
theorem exec_ok (hmix : P.follows .mixedOrders = true) (hlist : ∀ f, T.ext f = 1 → ListRule P f) (hmid : ∀ f, T.ext f = 2 → MidRule P T f) (htrue : ∀ f, T.ext f = 3 → ∀ w, Calls P f #[] w fun e w2 => e = .returned (.bool true) ∧ Below w.heap.size w w2) : ∀ (n : Nat) (S : Nat → Prop) (w0 : World) (k0 : Nat) (m0 : Nm) (G : Nm → Outc → Prop) (R : Ending → World → Prop) (pin : List (Nat × Nat)),
  (∀ m' o ρ L w, G m' o → St m' o.2.2 L w → Fr S w0 k0 m0 m' o.2.2 L w → Pin pin ρ → Outs ρ L w o.2.1 → Apart ρ o.2.1 → R (.returned (o.1.g ρ)) w) →
  ∀ (env : List Way) (s : HT) (h : AH) (t : XT) (m : Nm) (J : Jt) (Lu : Nat → Prop) (wu : World), Hyp P T G n env s h t m → St m h Lu wu → Fr S w0 k0 m0 m h Lu wu → EnvOK P T S w0 k0 m0 G n env J → t.ok P pin R J Lu wu := by
 intro n
 induction n using Nat.strongRecOn with
 | ind n ih =>
 intro S w0 k0 m0 G R pin hR env s h t m J Lu wu hH hst hfr hE
 obtain ⟨ob, os, ob', hx, hob, hG⟩ := hH m (Agree.refl _ _)
 cases n with
 | zero => cases hx
 | succ n =>
 have ihn := ih n (Nat.lt_succ_self n)
 have hEn := env_mono hE (Nat.le_succ n)
 cases t with
 | bad _ => cases hx
 | die _ => cases hx
 | done r out =>
  simp only [exec] at hx
  cases hx
  intro ρ L w hp he ho ha
  exact hR m (r, out, h) ρ L w (hG _ (List.mem_singleton.2 rfl)) (hst.later he.fine) (hfr.later he.fine) hp ho ha
 | need c k =>
  obtain ⟨hc, _⟩ := x_need hx
  refine ok_need hc (ihn S w0 k0 m0 G R pin hR env s h k m J Lu wu (hyp_step hH (Agree.refl _ _) (Nat.le_refl _) (fun m' _ ob os ob' h1 => ⟨_, (x_need h1).2⟩)) hst hfr hEn)
 | keep a xs k =>
  obtain ⟨i, off, s', sz, rows, rfl, h1, h2, hx⟩ := x_keep hx
  obtain ⟨_, _, hup⟩ := exec_up m n hx
  have ha : a = some (m.at i off) := hob (.at a i off) (hup _ (by simp))
  have hv : AV.gs id xs = (rows.flatten.drop off).take xs.length := hob (.vals _ _) (hup _ (by simp))
  obtain ⟨hr, _, _, _⟩ := hst.read h1
  refine ok_keep (fun ad had j v hj => ?_) (ihn S w0 k0 m0 G R pin hR env s' h k m J Lu wu (hyp_step hH (Agree.refl _ _) (Nat.le_refl _) (fun m' _ ob os ob' h3 => ?_)) hst hfr hEn)
  ·rw [ha] at had
   cases had
   rw [hv, List.getElem?_take] at hj
   split at hj
   ·rw [List.getElem?_drop] at hj
    obtain ⟨ad, e1, hc, _⟩ := hr _ v hj
    cases e1
    rw [at_add]; exact hc
   ·cases hj
  ·obtain ⟨i', off', s'', sz', rows', e1, e2, _, h4⟩ := x_keep h3
   cases e1
   exact ⟨_, h4⟩
 | ld a ls k =>
  obtain ⟨i, off, s', sz, rows, x, rfl, h1, h2, h3, hx⟩ := x_ld hx
  obtain ⟨_, _, hup⟩ := exec_up m n hx
  have ha : a = some (m.at i off) := hob (.at a i off) (hup _ (by simp))
  obtain ⟨hr, _, hi, _⟩ := hst.read h1
  have hV : (rows.flatten.drop off).take ls.length = Tup.V ls x := by
   have e1 := unTup_ok ls _ x h2
   have e2 : AV.gs id (((rows.flatten.drop off).take ls.length).map AV.v) = AV.gs id (vs ls x) := by rw [e1]
   rw [gs_v] at e2
   rw [e2]; exact gs_v _
  have hvis := hst.vis i hi
  refine ⟨m.at i off, x, ha, rfl, hvis.1, hvis.2, fun j v hj => ?_, ihn S w0 k0 m0 G R pin hR env s' h (k x) m J Lu wu (hyp_step hH (Agree.refl _ _) (Nat.le_refl _) (fun m' _ ob os ob' h4 => ?_)) hst hfr hEn⟩
  ·rw [← hV, List.getElem?_take] at hj
   split at hj
   ·rw [List.getElem?_drop] at hj
    obtain ⟨ad, e1, hc, _⟩ := hr _ v hj
    cases e1
    rw [at_add]; exact hc
   ·cases hj
  ·obtain ⟨i', off', s'', sz', rows', x', e1, e2, e3, _, h5⟩ := x_ld h4
   cases e1
   rw [h1] at e2
   cases e2
   rw [h2] at e3
   cases e3
   exact ⟨_, h5⟩
 | sto a xs ex k =>
  obtain ⟨i, off, s', e, sz, rows, row, rfl, h1, h2, h3, hx⟩ := x_sto hx
  obtain ⟨_, _, hup⟩ := exec_up m n hx
  have ha : a = some (m.at i off) := hob (.at a i off) (hup _ (by simp))
  simp only [Bool.and_eq_true] at h3
  obtain ⟨⟨⟨⟨c1, c2⟩, c3⟩, c4⟩, c5⟩ := h3
  have hex : ex = [] := List.isEmpty_iff.1 c2
  subst hex
  have c3 := blt_lt c3
  have c4 := ble_e c4
  obtain ⟨hgi, hp, zs, hz, ho⟩ := hst.own h1
  obtain ⟨z, hzi, hzr⟩ : ∃ z, zs[off / sz]? = some z ∧ z.1 = row := by
   rw [← hz, List.getElem?_map, Option.map_eq_some_iff] at h2
   exact h2
  have hlen : (row.take (off % sz) ++ AV.gs id xs ++ row.drop (off % sz + xs.length)).length = sz := by
   have hrl := z.2.1
   rw [hzr] at hrl
   simp only [List.length_append, List.length_take, List.length_drop, gs_len]
   omega
  have hone : ∀ u ∈ row.take (off % sz) ++ AV.gs id xs ++ row.drop (off % sz + xs.length), u.oneCell' = true := by
   intro u hu
   have hrow := z.2.2
   rw [hzr] at hrow
   rcases List.mem_append.1 hu with hu | hu
   ·rcases List.mem_append.1 hu with hu | hu
    ·exact hrow u (List.mem_of_mem_take hu)
    ·exact oneAll_e c5 u hu
   ·exact hrow u (List.mem_of_mem_drop hu)
  have hadr : a = ((some (m.at i 0)).map (fun x => x.add (off / sz * (RN sz hp).n))).map (fun x => x.add (off % sz)) := by
   rw [ha]
   show some (m.at i off) = some (((m.at i 0).add (off / sz * sz)).add (off % sz))
   have e1 : (m.at i 0).add (off / sz * sz) = m.at i (off / sz * sz) := by
    have := at_add m i (off / sz * sz) 0
    rw [Nat.add_zero] at this
    rw [← this]
    simp [Addr.add]
   rw [e1, at_add, show off / sz * sz + off % sz = off by rw [Nat.mul_comm]; exact Nat.div_add_mod off sz]
   have := at_add m i off 0
   rw [Nat.add_zero] at this
   rw [← this]
   simp [Addr.add]
  rw [hadr]
  refine ok_put (R := RN sz hp) (base := 0) (x := z) (x' := ⟨_, hlen, hone⟩) (vs := AV.gs id xs) (off / sz) (off % sz) ho hzi (by rw [gs_len]; exact c4) (by
   show row.take (off % sz) ++ AV.gs id xs ++ row.drop (off % sz + xs.length) = z.1.take (off % sz) ++ AV.gs id xs ++ z.1.drop (off % sz + (AV.gs id xs).length)
   rw [hzr, gs_len]) (fun ρ => gs_none (ρ := ρ) xs c1 id) (fun L w ho' hF hid => ?_)
  have hB : ∀ b, blk ((some (m.at i 0) : Option Addr), 0, 0) b → b = m.r i := fun b ⟨ad, h1, h2⟩ => by cases h1; exact h2.symm
  have hrows : (zs.set (off / sz) ⟨_, hlen, hone⟩).map (·.1) = rows.set (off / sz) (row.take (off % sz) ++ AV.gs id xs ++ row.drop (off % sz + xs.length)) := by rw [List.map_set, hz]
  have hob2 : ObAt L w (m.r i) (m.o i) (m.c i) (.blk e sz (rows.set (off / sz) (row.take (off % sz) ++ AV.gs id xs ++ row.drop (off % sz + xs.length)))) := by
   refine ⟨hp, _, hrows, ?_⟩
   rw [List.length_set]
   exact ho'
  have hmv := hst.put hgi (by simp) hB hF hid (Or.inr hob2)
  refine ihn S w0 k0 m0 G R pin hR env s' _ k m J L w (hyp_step hH (Agree.refl _ _) hmv.len (fun m' _ ob os ob' h4 => ?_)) hmv.st (hfr.mv hmv) hEn
  obtain ⟨i', off', s'', e', sz', rows', row', e1, e2, e3, _, h5⟩ := x_sto h4
  cases e1
  rw [h1] at e2
  cases e2
  rw [h2] at e3
  cases e3
  exact ⟨_, h5⟩
 | sem o ls sh k =>
  obtain ⟨s', e, x, h1, h2, h3, hx⟩ := x_sem hx
  obtain ⟨_, _, hup⟩ := exec_up m n hx
  have h3' := h3
  simp only [Bool.and_eq_true] at h3
  refine sem_ok h1 hst (fun y hy => hob y (hup y (by simp [hy]))) h2 h3.1 (fun m2 x2 L w hmv hx2 => ?_)
  refine ihn S w0 k0 m0 G R pin hR env s' _ (k x2) m2 J L w (hyp_step hH hmv.agree hmv.len (fun m' ha' ob os ob' h4 => ?_)) hmv.st (hfr.mv hmv) hEn
  obtain ⟨s'', e', x', e1, e2, e3, h5⟩ := x_sem h4
  rw [h1] at e1
  cases e1
  have hv := vals_agree h3.2 (Nat.le_refl _) ha'
  rw [hv, hx2] at e2
  cases e2
  exact ⟨_, h5⟩
 | loop ls x lvl body =>
  refine ok_loop (fun k y L w => k ≤ n ∧ ∃ s h m, Hyp P T G k (⟨lvl, ls, body, true⟩ :: env) s h (body y) m ∧ St m h L w ∧ Fr S w0 k0 m0 m h L w) n ⟨Nat.le_refl _, s, h, m, ?_, hst, hfr⟩ (fun k y L w hI => ?_)
  ·exact hyp_step hH (Agree.refl _ _) (Nat.le_refl _) (fun m' _ ob os ob' h1 => ⟨ob, by simpa only [exec] using h1⟩)
  ·obtain ⟨hk, s1, h1, m1, g1, g2, g3⟩ := hI
   refine ih k (by omega) S w0 k0 m0 G R pin hR _ s1 h1 (body y) m1 _ L w g1 g2 g3 (env_cons (env_mono hE (by omega)) (fun k' s2 h2 m2 x2 L2 w2 hk2 q1 q2 q3 => ?_))
   exact ⟨rfl, k', hk2, by omega, s2, h2, m2, q1, q2, q3⟩
 | again lvl ls x =>
  obtain ⟨e, env', hf, rfl, hx⟩ := x_again hx
  intro L w he
  refine hE lvl e env' hf n s h m x L w (Nat.lt_succ_self n) (hyp_step hH (Agree.refl _ _) (Nat.le_refl _) (fun m' _ ob os ob' h1 => ?_)) (hst.later he.fine) (hfr.later he.fine)
  obtain ⟨e', env'', hf', q, h2⟩ := x_again h1
  rw [hf] at hf'
  cases hf'
  exact ⟨_, h2⟩
 | cut ls lvl body k =>
  refine ok_cut (fun y L w => ∃ n', n' < n ∧ ∃ s h m, Hyp P T G n' env s h (k y) m ∧ St m h L w ∧ Fr S w0 k0 m0 m h L w) ?_ (fun y L w hI => ?_)
  ·refine ihn S w0 k0 m0 G R pin hR _ s h body m _ Lu wu (hyp_step hH (Agree.refl _ _) (Nat.le_refl _) (fun m' _ ob os ob' h1 => ⟨ob, by simpa only [exec] using h1⟩)) hst hfr (env_cons hEn (fun k' s2 h2 m2 x2 L2 w2 hk2 q1 q2 q3 => ?_))
   exact ⟨rfl, k', hk2, s2, h2, m2, q1, q2, q3⟩
  ·obtain ⟨n', hn', s1, h1, m1, g1, g2, g3⟩ := hI
   exact ih n' (by omega) S w0 k0 m0 G R pin hR env s1 h1 (k y) m1 J L w g1 g2 g3 (env_mono hE (by omega))
 | both a b =>
  obtain ⟨sa, s', os1, ob1, os2, rfl, ha, hb, rfl⟩ := x_both hx
  refine ⟨ihn S w0 k0 m0 G R pin hR env sa h a m J Lu wu (fun m' hm' => ?_) hst hfr hEn, ihn S w0 k0 m0 G R pin hR env s' h b m J Lu wu (fun m' hm' => ?_) hst hfr hEn⟩
  ·obtain ⟨ob, os, ob', h1, h2, h3⟩ := hH m' hm'
   obtain ⟨sa', s'', os1, ob1, os2, e1, ha, hb, rfl⟩ := x_both h1
   cases e1
   obtain ⟨_, _, hup⟩ := exec_up m' n hb
   exact ⟨[], os1, ob1, ha, fun x hx => h2 x (hup x (by simp [hx])), fun o ho => h3 o (by simp [ho])⟩
  ·obtain ⟨ob, os, ob', h1, h2, h3⟩ := hH m' hm'
   obtain ⟨sa', s'', os1, ob1, os2, e1, ha, hb, rfl⟩ := x_both h1
   cases e1
   exact ⟨_, os2, ob', hb, h2, fun o ho => h3 o (by simp [ho])⟩
 | call f args ex sh ls les k =>
  intro ρ L w hp he hout hap
  have hst1 := hst.later he.fine
  have hfr1 := hfr.later he.fine
  by_cases h0 : T.ext f = 0
  ·obtain ⟨sa, s', fn, os1, ob1, xs, h1, owe, x, rfl, hf, hc, hcal, hj, hu, hx⟩ := x_call0 h0 hx
   simp only [callOk, Bool.and_eq_true] at hc
   obtain ⟨⟨⟨⟨⟨c1, c2⟩, c3⟩, c4⟩, c5⟩, c6⟩ := hc
   obtain ⟨c, hbody⟩ := Option.isSome_iff_exists.1 c1
   have hρ : ∀ q, (ex.any fun x => Nat.beq x.1 q) = true → byPos ρ ex (posOf ex q) = ρ q := fun q hq => byPos_pos hq
   have hpos : ∀ (j : Nat) (x : Nat × List AV × TypeId), ex[j]? = some x → byPos ρ ex (0 + j) = ρ x.1 := fun j x hj => by rw [Nat.zero_add]; exact byPos_at hj
   rw [← gs_ren (D := fun q => ex.any fun x => Nat.beq x.1 q) hρ args c3]
   have hownL : ∀ b, own (byPos ρ ex) (renOut (posOf ex) 0 ex) b → L b := by
    rintro b ⟨y, hy, e⟩
    have : b ∈ ex.map fun x => ρ x.1 := by rw [← ren_map (σ := posOf ex) 0 ex hpos, ← e]; exact List.mem_map_of_mem (f := fun x : Nat × List AV × TypeId => byPos ρ ex x.1) hy
    obtain ⟨x, hx, e2⟩ := List.mem_map.1 this
    exact e2 ▸ outs_hid hout x hx
   refine (enterT hmix (T.A f) (T.C f) (rens (posOf ex) args) (renOut (posOf ex) 0 ex) (byPos ρ ex) (R := fun e w2 => ∃ m2 o ρ' L', (∃ os1 ob1, exec P T m2 n [] sa h [] (tree P (T.A f) (T.C f) fn (rens (posOf ex) args) (renOut (posOf ex) 0 ex)) = some (os1, ob1) ∧ o ∈ os1) ∧ St m2 o.2.2 L' w2 ∧ Fr (Sc ρ ex m h) w h.length m m2 o.2.2 L' w2 ∧ Pin (pinOf (byPos ρ ex) (renOut (posOf ex) 0 ex)) ρ' ∧ Outs ρ' L' w2 o.2.1 ∧ e = .returned (o.1.g ρ')) hf hbody c2 (ren_stand hρ 0 ex hpos c4 hout) (apart_map (ren_map 0 ex hpos) hap) c5 c6 (fun hF => ?_)).mono ?_
   ·refine ihn (Sc ρ ex m h) w h.length m (fun m2 o => ∃ os1 ob1, exec P T m2 n [] sa h [] (tree P (T.A f) (T.C f) fn (rens (posOf ex) args) (renOut (posOf ex) 0 ex)) = some (os1, ob1) ∧ o ∈ os1) _ _ ?_ [] sa h _ m noJ _ w ?_ ?_ ?_ ?_
    ·intro m' o ρ' L' w' hg g1 g2 g3 g4 _
     exact ⟨m', o, ρ', L', hg, g1, g2, g3, g4, rfl⟩
    ·intro m' hm'
     obtain ⟨ob, os, ob', q1, q2, q3⟩ := hH m' hm'
     obtain ⟨sa', s'', fn', os1, ob1, xs', h1', owe', x', e1, hf', _, hcal', hj', hu', hx'⟩ := x_call0 h0 q1
     cases e1
     rw [hf] at hf'
     cases hf'
     obtain ⟨_, _, hup⟩ := exec_up m' n hx'
     exact ⟨[], os1, ob1, hcal', fun y hy => q2 y (hup y (by simp [hy])), fun o ho => ⟨os1, ob1, hcal', ho⟩⟩
    ·exact hst1.vis' (fun i hi hl => (hst1.vis i hi).2 (hownL _ hl))
    ·exact ⟨Nat.le_refl _, Agree.refl _ _, fun i hi => Or.inl (Or.inr ⟨i, hi, rfl⟩), fine_up hF own_sc⟩
    ·intro lvl e env' hf'; cases hf'
   ·rintro e w2 ⟨m2, o, ρ', L', ⟨os2, ob2, hcal2, hmem⟩, g1, g2, g3, g4, rfl⟩
    obtain ⟨ob, os, ob', q1, q2, q3⟩ := hH m2 g2.agree
    obtain ⟨sa', s'', fn', os1', ob1', xs', h1', owe', x', e1, hf', _, hcal', hj', hu', hx'⟩ := x_call0 h0 q1
    cases e1
    rw [hf] at hf'
    cases hf'
    rw [hcal2] at hcal'
    cases hcal'
    obtain ⟨_, _, hup⟩ := exec_up m2 n hx'
    obtain ⟨j1, ys, j2, j3⟩ := join_ok (m := m2) (L := L') (w := w2) hj' (fun y hy => q2 y (hup y (by simp [hy]))) o hmem g1
    have hlen := (join_len hj').2 o hmem
    have hpin : ∀ (j : Nat) (x : Nat × List AV × TypeId), ex[j]? = some x → ρ' j = ρ x.1 := fun j x hj => by
     obtain ⟨c', T', hk⟩ := ren_key (σ := posOf ex) 0 ex j x hj
     have := pin_of g3 _ hk
     rw [Nat.zero_add] at this
     rw [this]; exact byPos_at hj
    obtain ⟨l1, l2, l3⟩ := leaves_ok j2 j3 hu' g4 hpin
    have hfr2 : Fr (Sc ρ ex m h) w h.length m m2 h1' L' w2 := ⟨by rw [← hlen]; exact g2.le, g2.agree, fun i hi => g2.home i (by rw [hlen]; exact hi), g2.fine⟩
    obtain ⟨hmv, hkeep⟩ := call_mv hst1 he.lt hout j1 hfr2 l3
    refine Or.inl ⟨x', by rw [l1], l2, hkeep, ihn S w0 k0 m0 G R pin hR env s' h1' (k x') m2 J L w2 (hyp_step hH hmv.agree hmv.len (fun m' ha' ob os ob' q => ?_)) hmv.st (hfr1.mv hmv) hEn⟩
    obtain ⟨sa', s'', fn', os1', ob1'', xs'', h1'', owe'', x'', e1, hf', _, hcal', hj'', hu'', hx''⟩ := x_call0 h0 q
    cases e1
    rw [hf] at hf'
    cases hf'
    have hloc := exec_loc ha' n hcal2 (fun o ho => by rw [(join_len hj').2 o ho]; exact Nat.le_refl _)
    rw [hloc] at hcal'
    cases hcal'
    rw [hj'] at hj''
    cases hj''
    rw [hu'] at hu''
    cases hu''
    exact ⟨_, hx''⟩
  ·by_cases h2 : T.ext f = 2
   ·obtain ⟨sa, s', obs, tr, os1, ob1, os2, xs, h1, owe, x, rfl, ht, hcal, hp2, hj, hu, hem, hx⟩ := x_call2 h2 hx
    have hex : ex = [] := List.isEmpty_iff.1 hem
    subst hex
    obtain ⟨r1, r2⟩ := hmid f h2 args obs tr ht
    rw [r1 ρ]
    have hst2 : St m h (fun _ => False) w := hst1.vis' (fun _ _ h => h)
    refine (r2 m h w (fun e w2 => ∃ m2 o v, (∃ os1 ob1, exec P T m2 n [] sa (h ++ obs) [] (tr (ptrs m2 h.length obs)) = some (os1, ob1) ∧ o ∈ os1) ∧ T.epi f o.2.2 h.length = some v ∧ St m2 o.2.2 (fun _ => False) w2 ∧ Fr (Sc ρ [] m h) w h.length m m2 o.2.2 (fun _ => False) w2 ∧ e = .returned (v.g id)) hst2 (fun m1 w1 hmv1 => ?_)).mono ?_
    ·have hF1 : Fr (Sc ρ [] m h) w h.length m m1 (h ++ obs) (fun _ => False) w1 := Fr.mv (m := m) (h := h) (L := fun _ => False) (w := w) ⟨Nat.le_refl _, Agree.refl _ _, fun i hi => Or.inl (Or.inr ⟨i, hi, rfl⟩), ⟨rfl, rfl, rfl, Nat.le_refl _, fun _ _ _ => rfl, fun b hb => hb.elim⟩⟩ hmv1
     refine ihn (Sc ρ [] m h) w h.length m (fun m2 o => (∃ os1 ob1, exec P T m2 n [] sa (h ++ obs) [] (tr (ptrs m2 h.length obs)) = some (os1, ob1) ∧ o ∈ os1) ∧ Agree (h ++ obs).length m1 m2 ∧ o.1 = .tup [] ∧ ∃ v, T.epi f o.2.2 h.length = some v) _ _ ?_ [] sa (h ++ obs) _ m1 noJ _ w1 ?_ hmv1.st hF1 ?_
     ·intro m' o ρ' L' w' hg g1 g2 g3 g4 _
      obtain ⟨hg1, hg2, hg3, v, hv⟩ := hg
      have g1' : St m' o.2.2 (fun _ => False) w' := g1.vis' (fun _ _ h => h)
      refine ⟨by rw [hg3]; rfl, m', o.2.2, v, hv, hg2, g1', fun w3 hF3 => ?_⟩
      have g2' : Fr (Sc ρ [] m h) w h.length m m' o.2.2 (fun _ => False) w' := ⟨g2.le, g2.agree, g2.home, ⟨g2.fine.os, g2.fine.tape, g2.fine.output, g2.fine.size, g2.fine.keep, fun b hb => hb.elim⟩⟩
      exact ⟨m', o, v, hg1, hv, g1'.later hF3, g2'.later hF3, rfl⟩
     ·intro m' hm'
      obtain ⟨ob, os, ob', q1, q2, q3⟩ := hH m' (hmv1.agree.trans hm' hmv1.len)
      obtain ⟨sa', s'', obs', tr', os1', ob1', os2', xs', h1', owe', x', e1, ht', hcal', hp', hj', hu', _, hx'⟩ := x_call2 h2 q1
      cases e1
      rw [ht] at ht'
      cases ht'
      obtain ⟨_, _, hup⟩ := exec_up m' n hx'
      have hpt : ptrs m1 h.length obs = ptrs m' h.length obs := (ptrs_agree obs _ _ (by rw [List.length_append]; exact Nat.le_refl _) hm').symm
      refine ⟨[], os1', ob1', by rw [hpt]; exact hcal', fun y hy => q2 y (hup y (by simp [hy])), fun o ho => ⟨⟨os1', ob1', hcal', ho⟩, hm', ?_, ?_⟩⟩
      ·exact (epis_mem hp' o ho).choose_spec.2.2
      ·obtain ⟨v, hv, _⟩ := epis_mem hp' o ho
       exact ⟨v, hv⟩
     ·intro lvl e env' hf'; cases hf'
    ·rintro e w2 ⟨m2, o, v, ⟨os3, ob3, hcal2, hmem⟩, hv, g1, g2, rfl⟩
     obtain ⟨ob, os, ob', q1, q2, q3⟩ := hH m2 g2.agree
     obtain ⟨sa', s'', obs', tr', os1', ob1', os2', xs', h1', owe', x', e1, ht', hcal', hp', hj', hu', _, hx'⟩ := x_call2 h2 q1
     cases e1
     rw [ht] at ht'
     cases ht'
     rw [hcal2] at hcal'
     cases hcal'
     obtain ⟨_, _, hup⟩ := exec_up m2 n hx'
     obtain ⟨v', hv', hmem2, _⟩ := epis_mem hp' o hmem
     rw [hv] at hv'
     cases hv'
     obtain ⟨j1, ys, j2, j3⟩ := join_ok (m := m2) (L := fun _ => False) (w := w2) hj' (fun y hy => q2 y (hup y (by simp [hy]))) _ hmem2 g1
     have hlen := (join_len hj').2 _ hmem2
     dsimp only at hlen
     obtain ⟨l1, l2, l3⟩ := leaves_ok (ρ := ρ) (ρ' := id) (L' := fun _ => False) (w2 := w2) j2 j3 hu' trivial (fun j x hj => by simp at hj)
     have hfr2 : Fr (Sc ρ [] m h) w h.length m m2 h1' (fun _ => False) w2 := ⟨by rw [← hlen]; exact g2.le, g2.agree, fun i hi => g2.home i (by rw [hlen]; exact hi), g2.fine⟩
     obtain ⟨hmv, hkeep⟩ := call_mv hst1 he.lt hout j1 hfr2 l3
     refine Or.inl ⟨x', by rw [← l1], l2, hkeep, ihn S w0 k0 m0 G R pin hR env s' h1' (k x') m2 J L w2 (hyp_step hH hmv.agree hmv.len (fun m' ha' ob os ob' q => ?_)) hmv.st (hfr1.mv hmv) hEn⟩
     obtain ⟨sa', s'', obs', tr', os1', ob1'', os2'', xs'', h1'', owe'', x'', e1, ht', hcal', hp'', hj'', hu'', _, hx''⟩ := x_call2 h2 q
     cases e1
     rw [ht] at ht'
     cases ht'
     have hb1 : ∀ o ∈ os3, o.2.2.length ≤ h1'.length := fun o ho => by
      obtain ⟨v, _, hv, _⟩ := epis_mem hp' o ho
      have := (join_len hj').2 _ hv
      dsimp only at this
      omega
     have hloc := exec_loc ha' n hcal2 hb1
     obtain ⟨c1, c2, _⟩ := exec_up m2 n hcal2
     have hpt : ptrs m' h.length obs = ptrs m2 h.length obs := ptrs_agree obs _ h1'.length (by have := c2 o hmem; have := hb1 o hmem; rw [List.length_append] at *; omega) ha'
     rw [hpt, hloc] at hcal'
     cases hcal'
     rw [hp'] at hp''
     cases hp''
     rw [hj'] at hj''
     cases hj''
     rw [hu'] at hu''
     cases hu''
     exact ⟨_, hx''⟩
   ·obtain ⟨s', r, owe, xs, x, h3, h4, h5, hx⟩ := x_call1 h0 h2 hx
    suffices hcall : Calls P f (AV.gs ρ args).toArray w (fun e w2 => e = .returned (r.g (byPos ρ ex)) ∧ Below w.heap.size w w2) by
     refine hcall.mono ?_
     rintro e w2 ⟨rfl, hb⟩
     have hF : Fine L w L w2 := (Fine.refl L w).step hb
     have hall : (renOut id 0 ex).all (fun x => AV.wfs (fun _ => false) x.2.1) = true := by
      unfold leavesOf at h4
      split at h4
      ·obtain ⟨hc, _⟩ := bif_some h4
       simp only [Bool.and_eq_true] at hc
       exact hc.1.1.2
      ·cases h4
     obtain ⟨l1, l2, l3⟩ := leaves_ok (ρ := ρ) (ρ' := byPos ρ ex) (L' := L) (w2 := w2) h4 rfl h5 (outs_ren 0 ex (fun j x hj => by rw [Nat.zero_add]; exact byPos_at hj) hall hout (fun b hl => hb.block b (he.lt b hl))) (fun j x hj => byPos_at hj)
     refine Or.inl ⟨x, by rw [← l1], l2, keeps_below he.lt hb, ihn S w0 k0 m0 G R pin hR env s' h (k x) m J L w2 (hyp_step hH (Agree.refl _ _) (Nat.le_refl _) (fun m' _ ob os ob' q1 => ?_)) (hst1.later hF) (hfr1.later hF) hEn⟩
     obtain ⟨s'', r', owe', xs', x', g3, g4, g5, g6⟩ := x_call1 h0 h2 q1
     rw [h3] at g3
     cases g3
     rw [h4] at g4
     cases g4
     rw [h5] at g5
     cases g5
     exact ⟨_, g6⟩
    obtain ⟨_, _, hup⟩ := exec_up m n hx
    unfold extX at h3
    split at h3
    ·rename_i a g h1f
     split at h3
     ·rename_i i off s1 hh1
      split at h3
      ·rename_i q hq
       split at h3
       ·rename_i j o2 s2 hh2
        split at h3
        ·rename_i hj0
         cases h3
         have ha : a = some (m.at i off) := hob (.at a i off) (hup _ (by simp))
         have hqq : q = some (m.r j) := hob (.map q j) (hup _ (by simp))
         subst ha hqq
         have hcell : w.cell? (m.at i off) = some (.map (some (m.r j))) := by
          unfold extL at hq
          split at hq
          ·rename_i sz rows hg
           split at hq
           ·rename_i q hfl
            cases hq
            obtain ⟨hr, _⟩ := hst1.read hg
            obtain ⟨ad, e1, hc, _⟩ := hr off _ hfl
            cases e1
            have := at_add m i off 0
            rw [Nat.add_zero] at this
            rw [← this] at hc
            simpa [Addr.add] using hc
           ·cases hq
          ·cases hq
         obtain ⟨es, clock, hm, hsz⟩ := hst1.holds j _ hj0
         have hes : es = #[] := Array.eq_empty_of_size_eq_zero hsz
         subst hes
         exact hlist f h1f (m.at i off) (m.r j) clock (g.g ρ) w hcell hm
        ·cases h3
       ·cases h3
      ·cases h3
     ·cases h3
    ·rename_i h1f
     cases h3
     exact htrue f h1f w
    ·cases h3
end
end Go.Proofs.YtcbpgbfbffnogaaGreatW.Ex
