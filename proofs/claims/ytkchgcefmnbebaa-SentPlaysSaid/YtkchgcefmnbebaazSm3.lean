import Derived.Test.YtkchgcefmnbebaazSm2
import Derived.Test.YtkchgcefmnbebaazSa
import Derived.Shelf.SlSortCmp.NoneTotal
namespace Go.Proofs.Ytkchgcefmnbebaa.X
open Go Go.RowKit Go.Proofs.YtkchgcefmnbebaaW.Rx
set_option linter.unusedVariables false
set_option linter.unusedSimpArgs false
set_option maxRecDepth 20000
abbrev Pk := Int × Int × Int
theorem perm_sorted : ∀ {l m : List Pk}, l.Pairwise (fun x y => x.1 < y.1) → m.Perm l → m.Pairwise (fun x y => x.1 ≤ y.1) → m = l
 | [], m, _, hp, _ => hp.eq_nil
 | x :: l, [], _, hp, _ => by have := hp.length_eq; simp at this
 | x :: l, y :: m, hl, hp, hm => by
  obtain ⟨l1, l2⟩ := List.pairwise_cons.1 hl
  obtain ⟨m1, m2⟩ := List.pairwise_cons.1 hm
  have hx : x ∈ y :: m := hp.mem_iff.2 List.mem_cons_self
  have hy : y ∈ x :: l := hp.mem_iff.1 List.mem_cons_self
  have e : y = x := by
   rcases List.mem_cons.1 hy with h | h
   ·exact h
   ·rcases List.mem_cons.1 hx with h' | h'
    ·exact h'.symm
    ·have := l1 y h; have := m1 x h'; omega
  subst e
  rw [perm_sorted l2 (List.Perm.cons_inv hp) m2]
def pkS (xs : List Pk) (h : ∀ p ∈ xs, 0 ≤ p.1 ∧ p.1 ≤ 4611686018427387903) : List PkS := xs.attach.map fun p => ⟨p.1, h p.1 p.2⟩
theorem pkS_val (xs : List Pk) (h : ∀ p ∈ xs, 0 ≤ p.1 ∧ p.1 ≤ 4611686018427387903) : (pkS xs h).map (·.1) = xs := by
 unfold pkS
 rw [List.map_map]
 exact List.attach_map_subtype_val xs
theorem flat_pk (l : List PkS) : l.flatMap encK = (l.map (·.1)).flatMap R36.enc := by
 rw [List.flatMap_map]
 rfl
open Go.Proofs Go.Sort Go.Lib Go.Shelf in
theorem flatK_list (d : Array PkS) : (flatK encK 3 d).toList = d.toList.flatMap encK := by
 have hlen : (d.toList.flatMap encK).length = d.size * 3 := by
  rw [flat_pk, flatMap_len]
  simp
 apply List.ext_getElem
 ·rw [hlen]; simp
 ·intro t h1 h2
  rw [hlen] at h2
  have hj : t / 3 < d.size := by omega
  have hg := get_flatK encK 3 d t h2
  have hs : t < (flatK encK 3 d).size := by simpa using h2
  rw [getElem!_pos _ t hs] at hg
  rw [Array.getElem_toList, hg]
  obtain ⟨a, ha, hi⟩ := (reps_flat (L := fun _ => False) (w := default) (R := R36)).2 rfl |>.get (l := d.toList.map (·.1)) (j := t / 3) (x := (d[t / 3]'hj).1) (by simp [hj])
  have ha : a = R36.enc (d[t / 3]'hj).1 := ha
  have := hi (t % 3) ((encK (d[t / 3]'hj))[t % 3]'(by simp [encK]; omega)) (by rw [ha]; exact List.getElem?_eq_getElem _)
  rw [← flat_pk] at this
  have e3 : t / 3 * R36.row.n + t % 3 = t := by show t / 3 * 3 + t % 3 = t; omega
  rw [e3, List.getElem?_eq_getElem (by rw [hlen]; exact h2)] at this
  rw [Option.some.inj this, getElem!_pos d _ hj, getElem!_pos _ _ (by simp [encK]; omega)]
open Go.Proofs Go.Sort Go.Lib Go.Shelf in
theorem put_list (F cur : Array Value) (h : F.size ≤ cur.size) : (putCells id 0 F cur).size = cur.size ∧ (putCells id 0 F cur).toList.take F.size = F.toList := by
 unfold putCells
 refine ⟨by simp, ?_⟩
 apply List.ext_getElem
 ·simp; omega
 ·intro t h1 h2
  have h2' : t < F.size := by simpa using h2
  simp [List.getElem_take, h2', getElem!_pos F t h2']
open Go.Proofs Go.Sort Go.Lib Go.Shelf in
theorem sort_own {base : Nat} {L : Nat → Prop} {w : World} {B : Option Addr} {c : Nat} {xs : List Pk} (ho : OwnF base L w 54 R36 B c xs) (hv : ∀ p ∈ xs, 0 ≤ p.1 ∧ p.1 ≤ 4611686018427387903) (hlen : xs.length < 4611686018427387904) :
  Calls Try.prog 47 #[.slice B xs.length c, .func (.func 48) #[] #[]] w fun e w' => e = .returned (.tuple #[]) ∧ ∃ ys, ys.Perm xs ∧ ys.Pairwise (fun x y => x.1 ≤ y.1) ∧ OwnF base L w' 54 R36 B c ys ∧ (w'.os = w.os ∧ w'.tape = w.tape ∧ w'.output = w.output) ∧ w.heap.size ≤ w'.heap.size ∧ ∀ b, b < w.heap.size → ¬ blk (B, 0, 0) b → w'.heap[b]? = w.heap[b]? := by
 have hz := AnyF.slices_SortFunc_none sortPk B c (.func (.func 48) #[] #[]) w
 change Calls Try.prog 47 _ _ _ at hz
 obtain ⟨⟨hl, hrow⟩, hvis⟩ := ho
 rcases xs with _ | ⟨x0, xr⟩
 ·refine hz.mono ?_
  rintro e w' ⟨rfl, rfl⟩
  exact ⟨rfl, [], List.Perm.refl _, List.Pairwise.nil, ⟨⟨hl, hrow⟩, hvis⟩, ⟨rfl, rfl, rfl⟩, Nat.le_refl _, fun _ _ _ => rfl⟩
 obtain ⟨xs, hxs⟩ : ∃ xs, xs = x0 :: xr := ⟨_, rfl⟩
 rw [← hxs] at hl hrow hv hlen ⊢
 dsimp only at hl hrow hvis
 rcases hrow with ⟨hv0, hn⟩ | ⟨g, cap, cur, hvv, k2, k5, k6, k7, k8, k9⟩
 ·rw [hxs] at hn; simp at hn
 simp only [Lf.V, Value.slice.injEq] at hvv
 obtain ⟨rfl, -, rfl⟩ := hvv
 have k3 := hvis _ rfl
 obtain ⟨d, hd⟩ : ∃ d : Array PkS, d = (pkS xs hv).toArray := ⟨_, rfl⟩
 have hdx : d.toList.map (·.1) = xs := by rw [hd]; exact pkS_val xs hv
 have hds : d.size = xs.length := by rw [← hdx]; simp
 have hfl : (flatK encK 3 d).toList = xs.flatMap R36.enc := by rw [flatK_list, flat_pk, hdx]
 have hfs : (flatK encK 3 d).size = xs.length * 3 := by simp [hds]
 have hcs : xs.length * 3 ≤ cur.size := by rw [k8]; exact Nat.mul_le_mul_right _ k6
 have hH : HoldsK encK 3 w g 0 d := by
  intro j hj
  rw [hfs] at hj
  have hjc : j < cur.size := by omega
  have e1 : cur.toList[j]? = some ((flatK encK 3 d)[j]!) := by
   have : (cur.toList.take (xs.length * 3))[j]? = ((flatK encK 3 d).toList)[j]? := by
    rw [hfl]
    exact congrArg (fun l => l[j]?) k9
   rw [List.getElem?_take, if_pos hj] at this
   rw [this, getElem!_pos _ j (by rw [hfs]; exact hj)]
   simp [hfs, hj]
  constructor
  ·unfold World.cell?
   dsimp only
   rw [k5]
   simp only [Nat.zero_add]
   simpa [hjc] using e1
  ·unfold World.frozen?
   dsimp only
   rw [k5]
   simp
 have eg : ∀ args w, (callFunc 48 args).run Try.prog w = .ok (.enter 48 args) w := enters_of Try.func48 (by kernel_rfl) rfl
 have hcon := AnyQ.slices_SortFunc sortPk 3 (fun _ => rfl) (fun _ => rfl) encK (fun _ => rfl) (fun x v hv => by simp [encK] at hv; rcases hv with rfl | rfl | rfl <;> rfl) cmpK cmpK_swo 48 #[] g 0 c d w eg (cmpK_lays g 0 d.size w) hH k3.1 (by rw [hds]; exact hlen)
 change Calls Try.prog 47 _ _ _ at hcon
 rw [hds] at hcon
 refine hcon.mono ?_
 rintro e w' ⟨rfl, d', n, os, hp, hs, rfl⟩
 have hps : d'.size = d.size := hp.1
 have hpp : d'.toList.Perm d.toList := by
  have := hp.2.2
  rw [Array.extract_eq_self_of_le (by omega), Array.extract_eq_self_of_le (by omega)] at this
  exact this
 obtain ⟨ys, hys⟩ : ∃ ys, ys = d'.toList.map (·.1) := ⟨_, rfl⟩
 have hyl : ys.length = xs.length := by rw [hys]; simp [hps, hds]
 have hfl' : (flatK encK 3 d').toList = ys.flatMap R36.enc := by rw [flatK_list, flat_pk, hys]
 have hfs' : (flatK encK 3 d').size = xs.length * 3 := by simp [hps, hds]
 obtain ⟨p1, p2⟩ := put_list (flatK encK 3 d') cur (by rw [hfs']; exact hcs)
 have hg' : (sortWorldK encK 3 w g 0 n d' os).heap[g]? = some (.cells (putCells id 0 (flatK encK 3 d') cur) 54 (0, 0)) := by
  show ((w.heap.modify g (onCells (putCells id 0 (flatK encK 3 d')))) ++ os)[g]? = _
  rw [Array.getElem?_append_left (by simpa using k3.1), Array.getElem?_modify, if_pos rfl, k5]
  rfl
 have hsz : w.heap.size ≤ (sortWorldK encK 3 w g 0 n d' os).heap.size := by
  show _ ≤ ((w.heap.modify g (onCells (putCells id 0 (flatK encK 3 d')))) ++ os).size
  rw [Array.size_append, Array.size_modify]
  exact Nat.le_add_right _ _
 refine ⟨rfl, ys, ?_, ?_, ⟨⟨flatMap_len _, Or.inr ⟨g, c, _, by rw [hyl]; rfl, k2, hg', by rw [hyl]; exact k6, k7, by rw [p1]; exact k8, ?_⟩⟩, fun ad ha => ?_⟩, ⟨rfl, rfl, rfl⟩, hsz, fun b hb hnb => ?_⟩
 ·rw [hys, ← hdx]; exact hpp.map _
 ·rw [hys, List.pairwise_map, List.pairwise_iff_getElem]
  intro i j hi hj hij
  have h := hs i j (Nat.zero_le _) hij (by rw [← hds, ← hps]; simpa using hj)
  rw [cmpK_lt] at h
  have hi' : i < d'.size := by simpa using hi
  have hj' : j < d'.size := by simpa using hj
  rw [getElem!_pos d' i hi', getElem!_pos d' j hj'] at h
  have := of_decide_eq_false h
  simp only [Array.getElem_toList]
  omega
 ·rw [← hfl', ← p2, hfs', ← hyl]
 ·cases ha
  exact ⟨Nat.lt_of_lt_of_le k3.1 hsz, k3.2⟩
 ·show ((w.heap.modify g (onCells (putCells id 0 (flatK encK 3 d')))) ++ os)[b]? = _
  rw [Array.getElem?_append_left (by simpa using hb), Array.getElem?_modify, if_neg (fun e => hnb ⟨_, rfl, e⟩)]
end Go.Proofs.Ytkchgcefmnbebaa.X
