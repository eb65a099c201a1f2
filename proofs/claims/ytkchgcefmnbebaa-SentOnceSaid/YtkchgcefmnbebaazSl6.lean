import Derived.Test.YtkchgcefmnbebaazSl5
namespace Go.Proofs.Ytkchgcefmnbebaa.X
open Go Go.RowKit Go.Proofs.YtkchgcefmnbebaaW.Rx
set_option linter.unusedVariables false
set_option linter.unusedSimpArgs false
set_option maxRecDepth 20000
def Sett (l ys l' : List Pk) : Prop := (∀ p ∈ ys, p ∈ l) ∧ ys.Pairwise (fun x y => x.1 ≠ y.1) ∧ l' = l.filter (fun x => ys.all fun z => x.1 != z.1)
theorem sett_nil (l : List Pk) : Sett l [] l := ⟨fun p hp => (by cases hp), List.Pairwise.nil, (List.filter_eq_self.2 (fun _ _ => rfl)).symm⟩
theorem sett_filter {l : List Pk} (hs : l.Pairwise fun x y => x.1 < y.1) (f : Pk → Bool) : Sett l (l.filter f) (l.filter fun p => !f p) :=
 ⟨fun p hp => (List.mem_filter.1 hp).1, (hs.filter f).imp (fun h => by omega), (strike_all hs f).symm⟩
theorem sett_trans {l ys l1 zs l2 : List Pk} (h : Sett l ys l1) (k : Sett l1 zs l2) : Sett l (ys ++ zs) l2 := by
 obtain ⟨h1, h2, h3⟩ := h
 obtain ⟨k1, k2, k3⟩ := k
 have hz : ∀ z ∈ zs, z ∈ l ∧ ∀ y ∈ ys, z.1 ≠ y.1 := fun z hz => by
  have := k1 z hz
  rw [h3] at this
  obtain ⟨a, b⟩ := List.mem_filter.1 this
  exact ⟨a, fun y hy => by have := (List.all_eq_true.1 b) y hy; simpa using this⟩
 refine ⟨fun p hp => (List.mem_append.1 hp).elim (h1 p) (fun h => (hz p h).1), List.pairwise_append.2 ⟨h2, k2, fun y hy z hz' e => (hz z hz').2 y hy e.symm⟩, ?_⟩
 rw [k3, h3, List.filter_filter]
 apply List.filter_congr
 intro x _
 rw [List.all_append, Bool.and_comm]
theorem loseF_sett {q : Led} (h : LedG q) (now wait : Int) (v : Bool) : Sett q.1 (loseF q now wait v).1 (loseF q now wait v).2.1 := by
 cases v
 ·exact sett_nil _
 ·exact sett_filter h.sorted _
theorem ackF_sett {q : Led} (h : LedG q) (l : List (Int × Int)) (now wait : Int) (r v : Bool) (f : Pk → Bool) : Sett q.1 ((ackF q l now wait r v f).1 ++ (ackF q l now wait r v f).2.1) (ackF q l now wait r v f).2.2.2.1 := by
 unfold ackF
 cases r
 ·exact sett_nil _
 cases ((l.length : Nat) : Int) == 0
 case true => exact sett_nil _
 cases v
 ·exact sett_nil _
 cases decide (q.2.2.1 < (l.getLastD (0, 0)).2)
 case true => exact sett_nil _
 have hq1 : LedG (q.1.filter (fun p => !f p), (if q.2.1 < (l.getLastD (0, 0)).2 then (l.getLastD (0, 0)).2 else q.2.1), q.2.2) :=
  ⟨h.sorted.filter _, fun p hp => h.rng p (List.mem_filter.1 hp).1, h.last, Nat.le_trans (List.length_filter_le _ _) h.len⟩
 exact sett_trans (sett_filter h.sorted f) (loseF_sett hq1 now wait true)
theorem n1 : (1 : Int) ≠ 0 := by decide
theorem n14 : (14 : Int) ≠ 0 := by decide
theorem n6 : (6 : Int) ≠ 0 := by decide
theorem sentF_once {q : Led} (h : LedG q) (n t s : Int) (vt : Bool) : ((sentF q n t s vt).1 = 0 ∧ (sentF q n t s vt).2.1 = q.1 ++ [(n, t, s)] ∧ ∀ p ∈ q.1, p.1 < n) ∨ ((sentF q n t s vt).1 ≠ 0 ∧ (sentF q n t s vt).2.1 = q.1) := by
 unfold sentF
 by_cases h1 : n < 0
 ·rw [decide_eq_true h1]; exact Or.inr ⟨n1, rfl⟩
 by_cases h2 : 4611686018427387903 < n
 ·rw [decide_eq_false h1, decide_eq_true h2]; exact Or.inr ⟨n1, rfl⟩
 rw [decide_eq_false h1, decide_eq_false h2]
 cases vt
 ·exact Or.inr ⟨n1, rfl⟩
 by_cases h3 : s < 1
 ·rw [decide_eq_true h3]; exact Or.inr ⟨n1, rfl⟩
 by_cases h4 : 1200 < s
 ·rw [decide_eq_false h3, decide_eq_true h4]; exact Or.inr ⟨n1, rfl⟩
 by_cases h5 : n ≤ q.2.2.1
 ·rw [decide_eq_false h3, decide_eq_false h4, decide_eq_true h5]; exact Or.inr ⟨n14, rfl⟩
 by_cases h6 : t < q.2.2.2
 ·rw [decide_eq_false h3, decide_eq_false h4, decide_eq_false h5, decide_eq_true h6]; exact Or.inr ⟨n14, rfl⟩
 by_cases h7 : (512 : Int) ≤ ((q.1.length : Nat) : Int)
 ·rw [decide_eq_false h3, decide_eq_false h4, decide_eq_false h5, decide_eq_false h6, decide_eq_true h7]; exact Or.inr ⟨n6, rfl⟩
 rw [decide_eq_false h3, decide_eq_false h4, decide_eq_false h5, decide_eq_false h6, decide_eq_false h7]
 exact Or.inl ⟨rfl, rfl, fun p hp => by have := h.rng p hp; omega⟩
theorem doesF_once {q : Led} (h : LedG q) (a : ActT) : ((doesF q a).2.1 = true ∧ (doesF q a).1 = [] ∧ (∃ t s, (doesF q a).2.2.1 = q.1 ++ [(a.2.1, t, s)]) ∧ ∀ p ∈ q.1, p.1 < a.2.1) ∨ ((doesF q a).2.1 = false ∧ Sett q.1 (doesF q a).1 (doesF q a).2.2.1) := by
 unfold doesF
 cases Int.tmod a.1 5 == 0
 case true =>
  rcases sentF_once h a.2.1 a.2.2.1 a.2.2.2.1 (timeB a.2.2.1) with ⟨h1, h2, h3⟩ | ⟨h1, h2⟩
  ·exact Or.inl ⟨by show ((sentF q a.2.1 a.2.2.1 a.2.2.2.1 (timeB a.2.2.1)).1 == 0) = true; rw [h1]; rfl, rfl, ⟨_, _, h2⟩, h3⟩
  ·exact Or.inr ⟨by show ((sentF q a.2.1 a.2.2.1 a.2.2.2.1 (timeB a.2.2.1)).1 == 0) = false; exact beq_eq_false_iff_ne.2 h1, by show Sett q.1 [] (sentF q a.2.1 a.2.2.1 a.2.2.2.1 (timeB a.2.2.1)).2.1; rw [h2]; exact sett_nil _⟩
 cases Int.tmod a.1 5 == 1
 case true => exact Or.inr ⟨rfl, ackF_sett h _ _ _ _ _ _⟩
 cases Int.tmod a.1 5 == 2
 case true => exact Or.inr ⟨rfl, loseF_sett h _ _ _⟩
 cases Int.tmod a.1 5 == 3
 case true => exact Or.inr ⟨rfl, sett_nil _⟩
 refine Or.inr ⟨rfl, ?_⟩
 have := sett_filter h.sorted (fun _ => true)
 rw [List.filter_eq_self.2 (fun _ _ => rfl), show q.1.filter (fun (_ : Pk) => !true) = [] by simp] at this
 exact this
structure OpenO (L : Nat → Prop) (w : World) (b : Nat) (os : List Int) : Prop where
 vis : ¬ L b
 map : ∃ es clock, MapG (fun n : Int => n) (fun _ => Value.bool true) w b os es clock
section
variable {P : Program} {Q : Ending → World → Prop} {pin : List (Nat × Nat)} {J : Jt} {L L' Lu : Nat → Prop} {wu w w' : World} {b : Nat} {os : List Int}
theorem OpenO.lt (h : OpenO L w b os) : b < w.heap.size := by obtain ⟨es, clock, hm⟩ := h.map; exact hm.lt
theorem OpenO.later (h : OpenO L w b os) (f : Fine L w L' w') : OpenO L' w' b os := by
 refine ⟨fun hl => ?_, ?_⟩
 ·rcases f.hid b hl with h1 | h1
  ·exact h.vis h1
  ·have := h.lt; omega
 ·obtain ⟨es, clock, hm⟩ := h.map
  exact ⟨es, clock, hm.later (f.keep b hm.lt h.vis)⟩
theorem OpenO.others {B : Nat → Prop} (h : OpenO L w b os) (hd : ¬ B b) (f : Fine (fun b => L b ∨ B b) w L' w') : OpenO L' w' b os :=
 OpenO.later (L := fun b => L b ∨ B b) ⟨fun hl => hl.elim h.vis hd, h.map⟩ f
theorem run_look {es : Array MapEntry} {clock : Nat} {t k e : TypeId} {i : TypeInfo} (h : MapG (fun n : Int => n) (fun _ => Value.bool true) w b os es clock) (ht : P.underlying t = some (.map k e)) (hk : P.underlying k = some (.int .i64)) (hi : P.info? e = some i) (hz : i.zero = some (.bool false)) (n : Int) : (Instr.lookup t (.map (some b)) (.int .i64 n) false).run P w = .ok (.bool (decide (n ∈ os))) w := by
 rcases find_at n 0 h.ents with ⟨g1, g2⟩ | ⟨j, p, g1, g2, g3⟩
 ·have : ¬ n ∈ os := fun hn => g2 n hn rfl
  simp [Instr.lookup, run_underlying ht, Sem.run_bind, get_map h.heap, run_check _ hk, run_find hk n _ _ g1, Result.andThen, zeroValue, typeInfo, hi, hz, this]
 ·have : n ∈ os := by have := List.mem_of_getElem? g1; rw [g2] at this; exact this
  simp [Instr.lookup, run_underlying ht, Sem.run_bind, get_map h.heap, run_check _ hk, run_find hk n _ _ g3, Result.andThen, this]
theorem ok_look {t k e : TypeId} {i : TypeInfo} {n : Int} {kk : Tup [Lf.b] → XT} (h : OpenO Lu wu b os) (ht : P.underlying t = some (.map k e)) (hk : P.underlying k = some (.int .i64)) (hi : P.info? e = some i) (hz : i.zero = some (.bool false)) (hc : ∀ L w, Fine Lu wu L w → (kk (decide (n ∈ os), ())).ok P pin Q J L w) :
  (XT.sem (Instr.lookup t (.map (some b)) (.int .i64 n) false) [Lf.b] Sh.one kk).ok P pin Q J Lu wu := by
 refine ok_semm (fun L w hF hlt => ?_)
 obtain ⟨es, clock, hm⟩ := (h.later hF).map
 exact ⟨(decide (n ∈ os), ()), w, run_look hm ht hk hi hz n, keeps_below hlt (Below.refl _ _), hc L w hF⟩
theorem fine_then {L0 : Nat → Prop} {w0 : World} (hF : Fine Lu wu L0 w0) {o : Obj} : Fine (fun c => Lu c ∨ c = b) wu L0 (setB w0 b o) := by
 refine ⟨hF.os, hF.tape, hF.output, by rw [setB_size]; exact hF.size, fun c hc hn => ?_, fun c hc => (hF.hid c hc).imp Or.inl id⟩
 rw [setB_other (fun e => hn (Or.inr e))]
 exact hF.keep c hc (fun h => hn (Or.inl h))
theorem ok_put4 {t k e : TypeId} {n : Int} {kk : Tup [] → XT} (h : OpenO Lu wu b os) (ht : P.underlying t = some (.map k e)) (hk : P.underlying k = some (.int .i64)) (hn : ¬ n ∈ os) (hc : ∀ L w, OpenO L w b (os ++ [n]) → Fine (fun c => Lu c ∨ c = b) wu L w → (∀ c, L c → Lu c ∨ wu.heap.size ≤ c) → (kk ()).ok P pin Q J L w) :
  (XT.sem (updSem t (.map (some b)) (.int .i64 n) (.bool true)) [] (Sh.tup []) kk).ok P pin Q J Lu wu := by
 refine ok_semm (fun L w hF hlt => ?_)
 have h := h.later hF
 obtain ⟨es, clock, hm⟩ := h.map
 obtain ⟨es', hr, hm'⟩ := hm.put ht hk n (fun p hp e => hn (e ▸ hp))
 exact ⟨(), _, hr, ⟨by rw [setB_size]; exact Nat.le_refl _, ⟨rfl, rfl, rfl⟩, fun c hb _ => setB_other (fun e => h.vis (e ▸ hb))⟩, hc L _ ⟨h.vis, es', clock + 1, hm'⟩ (fine_then hF) hF.hid⟩
theorem ok_del4 {t k e ty : TypeId} {n : Int} {kk : Tup [] → XT} (h : OpenO Lu wu b os) (ht : P.underlying t = some (.map k e)) (hk : P.underlying k = some (.int .i64)) (hs : os.Pairwise (fun x y => x < y)) (hc : ∀ L w, OpenO L w b (os.filter fun x => x != n) → Fine (fun c => Lu c ∨ c = b) wu L w → (∀ c, L c → Lu c ∨ wu.heap.size ≤ c) → (kk ()).ok P pin Q J L w) :
  (XT.sem (Builtin.delete_ #[t, k] ty #[.map (some b), .int .i64 n]) [] (Sh.tup []) kk).ok P pin Q J Lu wu := by
 refine ok_semm (fun L w hF hlt => ?_)
 have h := h.later hF
 obtain ⟨es, clock, hm⟩ := h.map
 obtain ⟨es', hr, hm'⟩ := hm.del (ty := ty) ht hk hs n
 exact ⟨(), _, hr, ⟨by rw [setB_size]; exact Nat.le_refl _, ⟨rfl, rfl, rfl⟩, fun c hb _ => setB_other (fun e => h.vis (e ▸ hb))⟩, hc L _ ⟨h.vis, es', clock, hm'⟩ (fine_then hF) hF.hid⟩
theorem ok_len4 {t k e ty : TypeId} {kk : Tup [Lf.i .i64] → XT} (h : OpenO Lu wu b os) (ht : P.underlying t = some (.map k e)) (hc : ∀ L w, Fine Lu wu L w → (kk ((os.length : Nat), ())).ok P pin Q J L w) : (XT.sem (Builtin.len_ #[t] ty #[.map (some b)]) [Lf.i .i64] Sh.one kk).ok P pin Q J Lu wu := by
 refine ok_semm (fun L w hF hlt => ?_)
 obtain ⟨es, clock, hm⟩ := (h.later hF).map
 exact ⟨((os.length : Nat), ()), w, hm.size ht, keeps_below hlt (Below.refl _ _), hc L w hF⟩
theorem ok_mk4 {t : TypeId} {kk : Tup [Lf.m] → XT} (hc : ∀ b L w, wu.heap.size ≤ b → OpenO L w b [] → Fine Lu wu L w → (kk (some b, ())).ok P pin Q J L w) : (XT.sem (Instr.makeMap t none) [Lf.m] Sh.one kk).ok P pin Q J Lu wu := by
 refine ok_semm (fun L w hF hlt => ?_)
 have hb : Below w.heap.size w (w.alloc (.map #[] 0)) := (Below.refl _ w).alloc (Nat.le_refl _) _
 exact ⟨(some w.heap.size, ()), w.alloc (.map #[] 0), rfl, keeps_below hlt hb, hc w.heap.size L _ hF.size ⟨fun h => absurd (hlt _ h) (Nat.lt_irrefl _), #[], 0, map_new w⟩ (hF.step hb)⟩
end
def tail4 (m : Option Nat) (a : Option Addr) (B : Option Addr) (n : Nat) (j : Int) : XT :=
            .loop ([Lf.i .i64]) ((0, PUnit.unit)) 1 (fun x6 =>
             bif decide (x6.1 < ((n : Nat) : Int)) then (
              .need (decide (0 ≤ x6.1) && decide (x6.1 < ((n : Nat) : Int)) && Option.isSome B) (
              .ld (Option.map (fun x => Addr.add x (Int.toNat x6.1 * 3)) B) ([Lf.i .i64, Lf.i .i64, Lf.i .i64]) (fun x7 =>
               .sem (Instr.lookup 50 (Value.map m) (Value.int IntKind.i64 x7.1) false) ([Lf.b]) (Sh.one) (fun x8 =>
                bif x8.1 then (
                 .sem (Builtin.delete_ #[50, 3] 0 #[Value.map m, Value.int IntKind.i64 x7.1]) ([]) (Sh.tup []) (fun x9 =>
                  .again 1 ([Lf.i .i64]) ((IntKind.i64.wrap (x6.1 + 1), PUnit.unit))))
                else (
                 .done (AV.v (Value.bool false)) ([]))))))
             else (
              .call 24 ([AV.v (Value.pointer a)]) ([]) (Sh.one) ([Lf.sl]) ([]) (fun x7 =>
               .sem (Builtin.len_ #[50] 3 #[Value.map m]) ([Lf.i .i64]) (Sh.one) (fun x8 =>
                bif ((x7.1.2.1 : Nat) : Int) != x8.1 then (
                 .done (AV.v (Value.bool false)) ([]))
                else (
                 .loop ([Lf.i .i64]) ((0, PUnit.unit)) 1 (fun x9 =>
                  bif decide (x9.1 < ((x7.1.2.1 : Nat) : Int)) then (
                   .need (decide (0 ≤ x9.1) && decide (x9.1 < ((x7.1.2.1 : Nat) : Int)) && Option.isSome x7.1.1) (
                   .ld (Option.map (fun x => Addr.add x (Int.toNat x9.1 * 3)) x7.1.1) ([Lf.i .i64, Lf.i .i64, Lf.i .i64]) (fun x10 =>
                    .sem (Instr.lookup 50 (Value.map m) (Value.int IntKind.i64 x10.1) false) ([Lf.b]) (Sh.one) (fun x11 =>
                     bif x11.1 then (
                      bif decide (0 < x9.1) then (
                       .need (decide (0 ≤ IntKind.i64.wrap (x9.1 - 1)) && decide (IntKind.i64.wrap (x9.1 - 1) < ((x7.1.2.1 : Nat) : Int)) && Option.isSome x7.1.1) (
                       .need (Option.isSome (Option.map (fun x => Addr.add x (Int.toNat (IntKind.i64.wrap (x9.1 - 1)) * 3)) x7.1.1)) (
                       .ld (Option.map (fun x => Addr.add x 0) (Option.map (fun x => Addr.add x (Int.toNat (IntKind.i64.wrap (x9.1 - 1)) * 3)) x7.1.1)) ([Lf.i .i64]) (fun x12 =>
                        bif decide (x10.1 ≤ x12.1) then (
                         .done (AV.v (Value.bool false)) ([]))
                        else (
                         .again 1 ([Lf.i .i64]) ((IntKind.i64.wrap (x9.1 + 1), PUnit.unit)))))))
                      else (
                       .again 1 ([Lf.i .i64]) ((IntKind.i64.wrap (x9.1 + 1), PUnit.unit))))
                     else (
                      .done (AV.v (Value.bool false)) ([]))))))
                  else (
                   .again 0 ([Lf.i .i64]) ((IntKind.i64.wrap (j + 1), PUnit.unit)))))))))
abbrev A4 : Nat → LA := fun r => if r = 6 then ⟨[(24, false, [Lf.i .i64])], []⟩ else if r = 14 then ⟨[(44, false, [Lf.i .i64])], []⟩ else if r = 24 then ⟨[(66, false, [Lf.i .i64])], []⟩ else noA r
set_option maxHeartbeats 4000000 in
theorem f4_t (A : Option Addr) (m c : Nat) : tree Try.prog A4 noC Try.f4 [AV.v (.slice A m c)] [] =
  .call 8 ([]) ([]) (Sh.one) ([Lf.p]) ([]) (fun x0 =>
   bif Option.isNone x0.1 then (
    .done (AV.v (Value.bool false)) ([]))
   else (
    .call 10 ([]) ([]) (Sh.one) ([Lf.b]) ([]) (fun x1 =>
     bif x1.1 then (
      .sem (Instr.makeMap 50 none) ([Lf.m]) (Sh.one) (fun x2 =>
       .loop ([Lf.i .i64]) ((0, PUnit.unit)) 0 (fun x3 =>
        bif decide (x3.1 < ((m : Nat) : Int)) then (
         .need (decide (0 ≤ x3.1) && decide (x3.1 < ((m : Nat) : Int)) && Option.isSome A) (
         .ld (Option.map (fun x => Addr.add x (Int.toNat x3.1 * 6)) A) ([Lf.i IntKind.u8, Lf.i .i64, Lf.i .i64, Lf.i .i64, Lf.i .i64, Lf.sl]) (fun x4 =>
          .call 25 ([AV.v (Value.pointer x0.1), AV.agg [AV.v (Value.int IntKind.u8 x4.1), AV.v (.int .i64 x4.2.1), AV.v (.int .i64 x4.2.2.1), AV.v (.int .i64 x4.2.2.2.1), AV.v (.int .i64 x4.2.2.2.2.1), AV.v (Value.slice x4.2.2.2.2.2.1.1 x4.2.2.2.2.2.1.2.1 x4.2.2.2.2.2.1.2.2)]]) ([]) (Sh.tup [(false, 1), (false, 1)]) ([Lf.sl, Lf.b]) ([]) (fun x5 =>
           bif x5.2.1 then (
            .sem (Instr.lookup 50 (Value.map x2.1) (Value.int IntKind.i64 x4.2.1) false) ([Lf.b]) (Sh.one) (fun x6 =>
             bif x6.1 then (
              .done (AV.v (Value.bool false)) ([]))
             else (
              .sem (updSem 50 (Value.map x2.1) (Value.int IntKind.i64 x4.2.1) (Value.bool true)) ([]) (Sh.tup []) (fun x7 =>
               (tail4 x2.1 x0.1 x5.1.1 x5.1.2.1 x3.1)))))
           else (
            (tail4 x2.1 x0.1 x5.1.1 x5.1.2.1 x3.1))))))
        else (
         .done (AV.v (Value.bool true)) ([])))))
     else (
      .done (AV.v (Value.bool false)) ([]))))) := by kernel_rfl
end Go.Proofs.Ytkchgcefmnbebaa.X
