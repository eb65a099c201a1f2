import Derived.Test.YtpdchohbmmfemaazDc4
namespace Go.Proofs.Ytpdchohbmmfemaa.X
open Go Go.RowKit Go.Proofs.YtpdchohbmmfemaaW.Rx
set_option linter.unusedVariables false
set_option linter.unusedSimpArgs false
set_option maxRecDepth 10000
theorem dec_args (A0 : Option Addr) (n c0 : Nat) (al af : Addr) : #[Value.slice A0 n c0, undef, Value.pointer (some al), Value.pointer (some af), undef, Value.slice A0 n c0, Value.int IntKind.i64 (n : Int), Value.bool false, undef, Value.func (Fn.func 24) #[] #[Value.pointer (some al), Value.pointer (some af)], undef, undef, undef, undef, undef, undef, undef, undef, undef, undef, undef, undef, undef, undef, undef, undef, undef, undef, undef, undef, undef, undef, undef, undef, undef] = (AV.gs id (args11 A0 n c0 (some al) (some af))).toArray ++ Array.replicate (35 - (args11 A0 n c0 (some al) (some af)).length) undef := by kernel_rfl
theorem dec_slots (A0 : Option Addr) (n c0 : Nat) (al af : Addr) : ((AV.gs id (args11 A0 n c0 (some al) (some af))).toArray ++ Array.replicate (35 - (args11 A0 n c0 (some al) (some af)).length) undef).getD 2 undef = .pointer (some al) ∧ ((AV.gs id (args11 A0 n c0 (some al) (some af))).toArray ++ Array.replicate (35 - (args11 A0 n c0 (some al) (some af)).length) undef).getD 3 undef = .pointer (some af) := by
 rw [← dec_args]
 exact ⟨rfl, rfl⟩
theorem dec_rest (k : Nat) (A0 : Option Addr) (c0 : Nat) (l0 : List Int) (o : Except (Int × Int) (List Fr)) (ho : iter (dec.s k) k ([], (l0, 0)) = some o) (w : World) (hS0 : SlR R23.row (fun _ => False) w A0 c0 l0) (w3 : World) (hw3 : w3 = (w.alloc (Obj.cells #[Value.slice none 0 0] 22)).alloc (Obj.cells #[Value.int IntKind.i64 0, Value.int IntKind.i64 0] 29)) (al af : Addr) (hal : al = ⟨w.heap.size, 0, none⟩) (haf : af = ⟨w.heap.size + 1, 0, none⟩) (r : List Fr × Int × Int) (hr : r = decO o) :
  c11.wp Try.prog (bodyPostD Try.prog Try.f11 (DecE w r)) { tmps := (AV.gs id (args11 A0 l0.length c0 (some al) (some af))).toArray ++ Array.replicate (35 - (args11 A0 l0.length c0 (some al) (some af)).length) undef, defers := [{ target := Target.fn (Fn.func 24) #[Value.pointer (some al), Value.pointer (some af)], args := #[] }] } w3 := by
 have hb : Below w.heap.size w w3 := by rw [hw3]; exact ((Below.refl w.heap.size w).alloc (Nat.le_refl _) _).alloc (by simp) _
 have hs3 : w3.heap.size = w.heap.size + 2 := by rw [hw3]; simp
 have hl3 : OwnO 0 (fun _ => False) w3 22 RSl (some al) 1 [(none, 0, 0)] := Or.inr ⟨w.heap.size, 0, #[Value.slice none 0 0], by rw [hal], Nat.zero_le _, ⟨by omega, fun h => h⟩, by
  rw [hw3]
  show ((w.heap.push _).push _)[_]? = _
  rw [Array.getElem?_push, if_neg (by simp), Array.getElem?_push, if_pos rfl], Nat.le_refl _, by simp [maxLen], Nat.le_refl _, rfl⟩
 have hf3 : OwnO 0 (fun _ => False) w3 29 R34 (some af) 1 [(0, 0)] := Or.inr ⟨w.heap.size + 1, 0, #[Value.int .i64 0, Value.int .i64 0], by rw [haf], Nat.zero_le _, ⟨by omega, fun h => h⟩, by
  rw [hw3]
  show ((w.heap.push _).push _)[_]? = _
  rw [Array.getElem?_push, if_pos (by simp)], Nat.le_refl _, by simp [maxLen], Nat.le_refl _, rfl⟩
 have ea : al.block = w.heap.size := by rw [hal]
 have ef : af.block = w.heap.size + 1 := by rw [haf]
 have hS3 : SlR R23.row (fun b => b = al.block ∨ b = af.block) w3 A0 c0 l0 := hS0.later ⟨hb.os, hb.tape, hb.output, hb.size, fun b hb' _ => hb.block b hb', fun b hb' => Or.inr (by omega)⟩
 have key := wp_at (P := Try.prog) mixed (c := c11) (n := 35) (lo := 4) (w := w3) (ds := [{ target := Target.fn (Fn.func 24) #[Value.pointer (some al), Value.pointer (some af)], args := #[] }]) noA noC (args11 A0 l0.length c0 (some al) (some af)) (R := DecR w3 al af o) rfl rfl (fun _ => c11_ok k al af A0 c0 l0 w3 o ho hS3 hl3 hf3 (by omega))
 refine wp_mono key ?_
 rintro e a' w' (⟨he, ⟨hd, ht⟩, hR⟩ | ⟨ps, rfl, ⟨hd, ht⟩, hR⟩)
 ·have t2 := ht 2 (by decide)
  have t3 := ht 3 (by decide)
  dsimp only at t2 t3
  rw [(dec_slots A0 l0.length c0 al af).1] at t2
  rw [(dec_slots A0 l0.length c0 al af).2] at t3
  have hlv : Leaves Try.prog Try.f11 a'.tmps (DecE w r) a'.defers .returning w' := by
   rw [hd, hr]
   cases o with
   | error z => obtain ⟨h, _⟩ := hR; cases h
   | ok xs => exact dec_ok hb ea ef t2 t3 hR
  rcases he with rfl | rfl
  ·exact hlv
  ·exact hlv
 ·have t2 := ht 2 (by decide)
  have t3 := ht 3 (by decide)
  dsimp only at t2 t3
  rw [(dec_slots A0 l0.length c0 al af).1] at t2
  rw [(dec_slots A0 l0.length c0 al af).2] at t3
  have hlv : Leaves Try.prog Try.f11 a'.tmps (DecE w r) a'.defers (.panicking ps) w' := by
   rw [hd, hr]
   cases o with
   | ok xs => obtain ⟨h, _⟩ := hR; cases h
   | error z => exact dec_err hb ea ef t2 t3 hR
  exact hlv
set_option maxHeartbeats 4000000 in
theorem frames_Decode.full (k : Nat) (A0 : Option Addr) (c0 : Nat) (l0 : List Int) (r : List Fr × Int × Int) (h : frames_Decode.F k l0 = some r) (w : World) (hS0 : SlR R23.row (fun _ => False) w A0 c0 l0) : Calls Try.prog 11 #[.slice A0 l0.length c0] w (DecE w r) := by
 have hmf : ∀ (fn : Fn) (first cap : Array Value) (w : World), (Instr.makeFunc fn first cap).run Try.prog w = .ok (.func fn first cap) w := fun _ _ _ _ => rfl
 refine calls_of_wp_defers Try.func11 f11_body ?_
 generalize hQ : bodyPostD Try.prog Try.f11 _ = Q
 have en : Try.f11.ntmps = 35 := by kernel_rfl
 rw [en]
 simp only [p0, p1, p3, Try.f11, List.size_toArray, List.length_cons, List.length_nil, Nat.reduceAdd, Nat.reduceSub, Array.replicate_succ, Array.replicate_zero, List.push_toArray, List.append_toArray, List.nil_append, List.cons_append]
 go_wp2
 ·rename_i hc
  have hc : decide ((1200 : Int) < (l0.length : Int)) = true := decide_eq_true (by omega)
  unfold frames_Decode.F at h
  have h := bif_t h hc
  obtain rfl := Option.some.inj h
  rw [← hQ]
  exact dec_long rfl rfl
 ·rename_i hc
  have hc : decide ((1200 : Int) < (l0.length : Int)) = false := decide_eq_false (by omega)
  unfold frames_Decode.F at h
  have h := bif_f h hc
  obtain ⟨o, ho, hr⟩ := Option.map_eq_some_iff.1 h
  rw [hc, dec_args, ← hQ]
  exact dec_rest k A0 c0 l0 o ho w hS0 _ rfl _ _ rfl rfl r hr.symm
theorem frames_Decode.c (k : Nat) (A0 : Option Addr) (n0 c0 : Nat) (l0 : List Int) (r : List Fr × Int × Int) (h : frames_Decode.F k l0 = some r) (hn0 : n0 = l0.length) (w : World) (hS0 : SlR R23.row (fun _ => False) w A0 c0 l0) : Calls Try.prog 11 (AV.gs id [AV.v (Value.slice A0 n0 c0)]).toArray w fun e w' => ∃ (B0 : Option Addr) (d0 : Nat), e = .returned (((Sh.tup [(false, 1), (true, 2)] : Sh).av (vs [Lf.sl, Lf.i .i64, Lf.i .i64] ((B0, r.1.length, d0), r.2.1, r.2.2, ()))).g id) ∧ Below w.heap.size w w' ∧ SlR R22 (fun b => b < w.heap.size) w' B0 d0 r.1 := by
 subst hn0
 refine (frames_Decode.full k A0 c0 l0 r h w hS0).mono ?_
 rintro e w' ⟨B, d, ys, rfl, hb, ho, hn, _⟩
 exact ⟨B, d, rfl, hb, hn.sl ho (fun _ h => h)⟩
end Go.Proofs.Ytpdchohbmmfemaa.X
