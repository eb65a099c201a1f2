import Derived.RangeFuncNested
import Derived.RangeFuncBound
import Derived.RangeFuncCalls
import Derived.RangeFuncLeaves
import Derived.Shelf.Abstract
import Derived.Shelf.RegionOpen
import Derived.WalkKit
import Derived.OwnWalkIn
import Derived.TacticsInMore
import Derived.LoopNIn
import Derived.LoopIn
import Derived.Test.YtpdchohbmmfemaazFe
namespace Go.Proofs.Ytpdchohbmmfemaa.X
open Go Go.RowKit Go.Shelf Go.Proofs.YtpdchohbmmfemaaW.Rx
set_option linter.unusedVariables false
set_option linter.unusedSimpArgs false
attribute [local go_sem] Oper.semAt_some
def bk (zs : List (Int × Int)) (k : Nat) : List (Nat × (Int × Int)) := (List.range k).map fun j => (zs.length - 1 - j, zs[zs.length - 1 - j]?.getD (0, 0))
theorem bk_succ (zs : List (Int × Int)) (k : Nat) : bk zs (k + 1) = bk zs k ++ [(zs.length - 1 - k, zs[zs.length - 1 - k]?.getD (0, 0))] := by simp [bk, List.range_succ]
theorem bk_length (zs : List (Int × Int)) (k : Nat) : (bk zs k).length = k := by simp [bk]
set_option maxHeartbeats 1000000 in
theorem bw_in (F : Fence) (n : Nat) (h5 : F.fn 42) (hro : F.round = none) (a : Option Addr) (len cap : Nat) (w : World) :
  CallsIn F n Try.prog 42 #[.slice a len cap] w fun e w' => e = .returned (.func (.func 59) #[] #[.pointer (some ⟨w.heap.size, 0, none⟩)]) ∧ w' = w.alloc (.cells #[.slice a len cap] 34) := by
 refine callsIn_of_wp Try.func42 rfl h5 ?_ hro
 simp only [Try.ntmps42, List.size_toArray, List.length_cons, List.length_nil, Nat.reduceAdd, Nat.reduceSub, Array.replicate_succ, Array.replicate_zero, List.push_toArray, List.append_toArray, List.nil_append, List.cons_append]
 gi_wp2
 go_ret
 exact ⟨rfl, rfl⟩
def KpB (n₀ Bs : Nat) (A B : World) : Prop := Below n₀ A B ∧ B.heap[Bs]? = A.heap[Bs]?
theorem KpB.refl (n₀ Bs : Nat) (A : World) : KpB n₀ Bs A A := ⟨Below.refl _ _, rfl⟩
theorem KpB.trans {n₀ Bs : Nat} {A B C : World} (h : KpB n₀ Bs A B) (g : KpB n₀ Bs B C) : KpB n₀ Bs A C := ⟨h.1.trans g.1, g.2.trans h.2⟩
theorem KpB.box {n₀ Bs : Nat} {A B : World} (h : KpB n₀ Bs A B) : B.cell? ⟨Bs, 0, none⟩ = A.cell? ⟨Bs, 0, none⟩ := World.cell?_of_block h.2
theorem KpB.put {n₀ Bs B : Nat} (h1 : n₀ ≤ B) (h2 : Bs < B) (W : World) (l : Nat) (o o' : Obj) (hl : B ≤ l) (h : W.heap[l]? = some o) (h3 : o.isCells = false) (h4 : o.isWalk = false) : KpB n₀ Bs W (W.putObj l o') := by
 have hg := grownBy_putObj' W l o'
 have hlt := (Array.getElem?_eq_some_iff.1 h).1
 exact ⟨(Below.refl n₀ W).grown hg (by omega) (fun k e => by cases e; omega), hg.block Bs (by omega) (fun e => by cases e; omega)⟩
set_option maxRecDepth 100000 in
set_option maxHeartbeats 2000000 in
theorem bw1_in (F : Fence) (n : Nat) (h7 : F.fn 59) (hro : F.round = none) (hn : 1 ≤ n) (l Bs n₀ : Nat) (ad : Addr) (cap : Nat) (zs : List (Int × Int)) (hb : ad.block < n₀) (hlen : zs.length ≤ 1000000) (J Jx : List (Nat × (Int × Int)) → World → Prop)
  (hY : ∀ pre x W, J pre W → pre.length < zs.length → YieldAt F (n - 1) Try.prog l #[.int .i64 (x.1 : Int), .agg #[.int .i64 x.2.1, .int .i64 x.2.2]] W fun e W' =>
   (e = .returned (.bool true) ∧ J (pre ++ [x]) W' ∧ KpB n₀ Bs W W') ∨ (e = .returned (.bool false) ∧ Jx (pre ++ [x]) W'))
  (W : World) (hBc : W.cell? ⟨Bs, 0, none⟩ = some (.slice (some ad) zs.length cap))
  (hc : ∀ (j : Nat) x, zs[j]? = some x → W.cell? (ad.add (j * 2)) = some (.int .i64 x.1) ∧ W.cell? ⟨(ad.add (j * 2)).block, (ad.add (j * 2)).off + 1, none⟩ = some (.int .i64 x.2)) (h0 : J [] W) :
  CallsIn F n Try.prog 59 #[.func (.yield l) #[] #[], .pointer (some ⟨Bs, 0, none⟩)] W fun e W' => (∃ v, e = .returned v) ∧
   ((∃ ys, ys = bk zs zs.length ∧ J ys W') ∨ (∃ pre, (∃ k, k ≤ zs.length ∧ pre = bk zs k) ∧ Jx pre W')) := by
 refine callsIn_of_wp Try.func59 rfl h7 ?_ hro
 simp only [Try.ntmps59, List.size_toArray, List.length_cons, List.length_nil, Nat.reduceAdd, Nat.reduceSub, Array.replicate_succ, Array.replicate_zero, List.push_toArray, List.append_toArray, List.nil_append, List.cons_append]
 have hw0 : wrap64 ((zs.length : Int) - 1) = (zs.length : Int) - 1 := by unfold wrap64; omega
 gi_wp2
 gi_loopw [3] (fun i wr => ∃ k : Nat, k ≤ zs.length ∧ i = .int .i64 ((zs.length : Int) - 1 - (k : Int)) ∧ J (bk zs k) wr ∧ KpB n₀ Bs W wr)
  (fun i _ => ((intOf i) + 1).toNat)
 case atStart => exact ⟨0, Nat.zero_le _, by simp, h0, KpB.refl _ _ _⟩
 case round =>
  obtain ⟨k, hk, rfl, hJs, hnx⟩ := hrel
  by_cases hlt : k < zs.length
  ·obtain ⟨j, hj⟩ : ∃ j, j + 1 + k = zs.length := ⟨zs.length - 1 - k, by omega⟩
   have hi : (zs.length : Int) - 1 - (k : Int) = (j : Int) := by omega
   rw [hi]
   obtain ⟨x, hx⟩ : ∃ x, zs[j]? = some x := ⟨_, List.getElem?_eq_getElem (by omega)⟩
   obtain ⟨c1, c2⟩ := hc j x hx
   have hc1 := (hnx.1.cell (p := ad.add (j * 2)) (by rw [block_add]; exact hb)).trans c1
   have hc2 := (hnx.1.cell (p := ⟨(ad.add (j * 2)).block, (ad.add (j * 2)).off + 1, none⟩) (by dsimp only; rw [block_add]; exact hb)).trans c2
   have hBc' := hnx.box.trans hBc
   have hge : (0 : Int) ≤ (j : Int) := by omega
   have hidx : (0 : Int) ≤ (j : Int) ∧ (j : Int) < (zs.length : Int) := by omega
   have hw1 : wrap64 ((j : Int) - 1) = (j : Int) - 1 := by unfold wrap64; omega
   have hbx : bk zs (k + 1) = bk zs k ++ [(j, x)] := by
    rw [bk_succ, show zs.length - 1 - k = j by omega, hx]; rfl
   obtain ⟨fn, tmps, assign, body, hy, hR⟩ := hY _ (j, x) wr hJs (by rw [bk_length]; exact hlt)
   dsimp only at hy
   gi_wp2
   refine hR.mono ?_
   rintro e W3 (⟨rfl, hJ3, hk3⟩ | ⟨rfl, hJx3⟩)
   ·gi_wp2
    go_roundw
    case rel => exact ⟨k + 1, by omega, by simp; omega, by rw [hbx]; exact hJ3, hnx.trans hk3⟩
    case measure => simp [intOf] <;> omega
   ·gi_wp2
    refine bodyPost_ret (results_none rfl _ _ _) rfl ?_
    exact ⟨⟨_, rfl⟩, .inr ⟨_, ⟨k + 1, by omega, hbx.symm⟩, hJx3⟩⟩
  ·obtain rfl : k = zs.length := by omega
   have hi : (zs.length : Int) - 1 - (zs.length : Int) = -1 := by omega
   rw [hi]
   gi_wp2
   go_end0
   exact ⟨⟨_, rfl⟩, .inl ⟨_, rfl, hJs⟩⟩
theorem bw_stops (F : Fence) (n : Nat) (h7 : F.fn 59) (hro : F.round = none) (hn : 1 ≤ n) (Bs n₀ : Nat) (ad : Addr) (cap : Nat) (zs : List (Int × Int)) (hb : ad.block < n₀) (hlen : zs.length ≤ 1000000) (w : World) (hBs : Bs < w.heap.size) (hn₀ : n₀ ≤ w.heap.size)
  (hBc : w.cell? ⟨Bs, 0, none⟩ = some (.slice (some ad) zs.length cap))
  (hc : ∀ (j : Nat) x, zs[j]? = some x → w.cell? (ad.add (j * 2)) = some (.int .i64 x.1) ∧ w.cell? ⟨(ad.add (j * 2)).block, (ad.add (j * 2)).off + 1, none⟩ = some (.int .i64 x.2)) :
  SeqStopsK F n Try.prog 59 #[.pointer (some ⟨Bs, 0, none⟩)] (fun x : Nat × (Int × Int) => #[.int .i64 (x.1 : Int), .agg #[.int .i64 x.2.1, .int .i64 x.2.2]]) (KpB n₀ Bs) (fun ys => ys = bk zs zs.length) (fun pre => ∃ k, k ≤ zs.length ∧ pre = bk zs k) zs.length w := fun l J Jx W hW _ _ hY h0 => by
 have hc' : ∀ (j : Nat) x, zs[j]? = some x → W.cell? (ad.add (j * 2)) = some (.int .i64 x.1) ∧ W.cell? ⟨(ad.add (j * 2)).block, (ad.add (j * 2)).off + 1, none⟩ = some (.int .i64 x.2) := fun j x hx => ⟨(hW.cell (p := ad.add (j * 2)) (by rw [block_add]; omega)).trans (hc j x hx).1, (hW.cell (p := ⟨(ad.add (j * 2)).block, (ad.add (j * 2)).off + 1, none⟩) (by dsimp only; rw [block_add]; omega)).trans (hc j x hx).2⟩
 exact bw1_in F n h7 hro hn l Bs n₀ ad cap zs hb hlen J Jx hY W ((hW.cell (p := ⟨Bs, 0, none⟩) hBs).trans hBc) hc' h0
end Go.Proofs.Ytpdchohbmmfemaa.X
