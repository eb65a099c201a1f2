/- Reasm: a new stream, as the printed walks ask it. -/
import Derived.Test.YtdjeadgebcndeaaRw
import Derived.Test.YtdjeadgebcndeaaWLast
import Derived.Test.YtdjeadgebcndeaaAid
import Derived.Test.YtdjeadgebcndeaaAid2
import Derived.Test.YtdjeadgebcndeaaAid4
namespace Go.Proofs.Ytdjeadgebcndeaa.X
open Go Go.RowKit Go.Proofs.YtdjeadgebcndeaaW.Rx Go.Proofs.YtdjeadgebcndeaaW.PrintWords Go.Proofs.YtdjeadgebcndeaaW.PrintLast
set_option linter.unusedVariables false
set_option linter.unusedSimpArgs false
set_option maxRecDepth 10000
abbrev Stm := Int × Int × List Int × List (Int × Int) × Int × Bool × Bool
theorem zeros_row (n : Nat) : (List.replicate n (Value.int .u8 0)) = (List.replicate n (0 : Int)).flatMap R22.enc := by
  induction n with
  | zero => rfl
  | succ n ih => rw [List.replicate_succ, List.replicate_succ, List.flatMap_cons, ← ih]; rfl
/-- What is made. -/
def NewP (n0 : Nat) (w' : World) (r : Option Stm) (a A2 : Option Addr) (c2 : Nat) (A3 : Option Addr) (c3 : Nat) : Prop := match r with
  | none => a = none
  | some q => OwnO n0 (fun b => b < n0) w' 45 RW45 a 1 [(q.1, q.2.1, (A2, q.2.2.1.length, c2), (A3, q.2.2.2.1.length, c3), q.2.2.2.2.1, q.2.2.2.2.2.1, q.2.2.2.2.2.2)] ∧ OwnO n0 (fun b => b < n0) w' 5 R22 A2 c2 q.2.2.1 ∧ OwnO n0 (fun b => b < n0) w' 51 R43 A3 c3 q.2.2.2.1 ∧ Dj A2 a ∧ Dj A3 a ∧ Dj A3 A2
theorem new_ob (w : World) (n : Nat) (hn : 0 < n) (hn2 : n ≤ 4096) : NewP w.heap.size ((w.alloc (.cells (List.replicate n (Value.int .u8 0)).toArray 5)).alloc (.cells #[.int .i64 n, .int .i64 0, .slice (some ⟨w.heap.size, 0, none⟩) n n, .slice none 0 0, .int .i64 0, .bool false, .bool false] 45)) (some (n, 0, List.replicate n 0, [], 0, false, false)) (some ⟨w.heap.size + 1, 0, none⟩) (some ⟨w.heap.size, 0, none⟩) n none 0 := by
  have hg2 := Go.Proofs.YtdjeadgebcndeaaW.Aid.heap_new2 w (.cells (List.replicate n (Value.int .u8 0)).toArray 5) (.cells #[.int .i64 n, .int .i64 0, .slice (some ⟨w.heap.size, 0, none⟩) n n, .slice none 0 0, .int .i64 0, .bool false, .bool false] 45)
  have hg : ((w.alloc (.cells (List.replicate n (Value.int .u8 0)).toArray 5)).alloc (.cells #[.int .i64 n, .int .i64 0, .slice (some ⟨w.heap.size, 0, none⟩) n n, .slice none 0 0, .int .i64 0, .bool false, .bool false] 45)).heap[w.heap.size]? = some (.cells (List.replicate n (Value.int .u8 0)).toArray 5) := by
    show ((w.heap.push _).push _)[_]? = _
    rw [Array.getElem?_push, if_neg (by simp), Array.getElem?_push, if_pos rfl]
  have hs : ((w.alloc (.cells (List.replicate n (Value.int .u8 0)).toArray 5)).alloc (.cells #[.int .i64 n, .int .i64 0, .slice (some ⟨w.heap.size, 0, none⟩) n n, .slice none 0 0, .int .i64 0, .bool false, .bool false] 45)).heap.size = w.heap.size + 2 := by show ((w.heap.push _).push _).size = _; simp
  generalize (w.alloc (.cells (List.replicate n (Value.int .u8 0)).toArray 5)).alloc (.cells #[.int .i64 n, .int .i64 0, .slice (some ⟨w.heap.size, 0, none⟩) n n, .slice none 0 0, .int .i64 0, .bool false, .bool false] 45) = W at hg hg2 hs
  have hr : (List.replicate n (0 : Int)).length = n := List.length_replicate
  refine ⟨Or.inr ⟨w.heap.size + 1, 0, _, rfl, by omega, ⟨by omega, by omega⟩, hg2, by simp, by simp [maxLen], by simp, by simp [hr, Lf.V]⟩, Or.inr ⟨w.heap.size, 0, _, rfl, Nat.le_refl _, ⟨by omega, by omega⟩, hg, by simp, by simp only [maxLen]; omega, by simp, ?_⟩, OwnO.nil, ?_, Dj.nil2, Dj.nil2⟩
  · dsimp only
    rw [List.drop_zero, hr, ← zeros_row]
    exact List.take_of_length_le (by simp)
  · rintro b ⟨ad, h1, rfl⟩ ⟨ad2, h2, h3⟩
    cases h1; cases h2; dsimp only at h3; omega
theorem info5 : (Try.prog.info? 5).map (fun i => (i.zero, i.size, i.bytes)) = some (some (.int .u8 0), 1, 1) := by kernel_rfl
def reasm_New.F (k : Nat) (a0 : Int) : Option (Option Stm × Int) := bif decide (a0 < 1) then some (none, 1) else bif decide (4096 < a0) then some (none, 1) else some (some (a0, 0, List.replicate a0.toNat 0, [], 0, false, false), 0)
set_option maxHeartbeats 4000000 in
set_option maxRecDepth 100000 in
theorem reasm_New.c (k : Nat) (a0 : Int) (r : Option Stm × Int) (h : reasm_New.F k a0 = some r) (w : World) : Calls Try.prog 8 (AV.gs id [AV.v (Value.int IntKind.i64 a0)]).toArray w fun e w' => ∃ (a A2 : Option Addr) (c2 : Nat) (A3 : Option Addr) (c3 : Nat), e = .returned (((Sh.tup [(false, 1), (false, 1)] : Sh).av (vs [Lf.p, Lf.i IntKind.i64] (a, r.2, ()))).g id) ∧ Below w.heap.size w w' ∧ NewP w.heap.size w' r.1 a A2 c2 A3 c3 := by
  unfold reasm_New.F at h
  by_cases hr : a0 < 1 ∨ 4096 < a0
  · have hr' : r = (none, 1) := by
      by_cases h1 : a0 < 1
      · rw [decide_eq_true h1] at h; exact (Option.some.inj h).symm
      · rw [decide_eq_false h1, decide_eq_true (hr.resolve_left h1)] at h; exact (Option.some.inj h).symm
    subst hr'
    have key : Calls Try.prog 8 #[.int .i64 a0] w fun e w' => e = .returned (.tuple #[.pointer none, .int .i64 1]) ∧ Below w.heap.size w w' := by
      have hB := Aside0.mk (Below.refl w.heap.size w)
      by_cases h1 : a0 < 1
      · have c1 : decide (a0 < 1) = true := decide_eq_true h1
        clear h hr
        go_enter Try.func8, Try.ntmps8
        go_wp2
        go_ret2
        exact ⟨by simp, hB.out⟩
      · have c1 : decide (a0 < 1) = false := decide_eq_false h1
        have c2 : decide ((4096 : Int) < a0) = true := decide_eq_true (hr.resolve_left h1)
        clear h hr
        go_enter Try.func8, Try.ntmps8
        go_wp2
        go_ret2
        exact ⟨by simp, hB.out⟩
    refine key.mono ?_
    rintro e w' ⟨rfl, hb⟩
    exact ⟨none, none, 0, none, 0, rfl, hb, rfl⟩
  · have h1 : ¬ a0 < 1 := fun h => hr (Or.inl h)
    have h2 : ¬ 4096 < a0 := fun h => hr (Or.inr h)
    rw [decide_eq_false h1, decide_eq_false h2] at h
    obtain rfl := Option.some.inj h
    obtain ⟨n, rfl⟩ : ∃ n : Nat, a0 = n := ⟨a0.toNat, by omega⟩
    rw [Int.toNat_natCast]
    have hn : 0 < n := by omega
    have hn2 : n ≤ 4096 := by omega
    have key : Calls Try.prog 8 #[.int .i64 n] w fun e w' => e = .returned (.tuple #[.pointer (some ⟨w.heap.size + 1, 0, none⟩), .int .i64 0]) ∧ Below w.heap.size w w' ∧ NewP w.heap.size w' (some (n, 0, List.replicate n 0, [], 0, false, false)) (some ⟨w.heap.size + 1, 0, none⟩) (some ⟨w.heap.size, 0, none⟩) n none 0 := by
     obtain ⟨i0, hi0, hz0, hsz0, hby0⟩ := info_parts info5
     have hmk : ∀ W : World, (Instr.makeSlice 22 (.int .i64 (n : Int)) (.int .i64 (n : Int))).run Try.prog W = .ok (.slice (some ⟨W.heap.size, 0, none⟩) n n) (W.alloc (.cells (List.replicate n (Value.int .u8 0)).toArray 5)) := fun W => by
       have := run_make (P := Try.prog) W 22 5 i0 (.int .u8 0) Try.underlying22 hi0 hz0 .i64 .i64 (n : Int) (n : Int) (by omega) (by omega) (by rw [hby0]; omega) (by omega)
       rw [this, hsz0, Int.toNat_natCast, Nat.mul_one]
       exact congrArg (fun c => Result.ok _ (W.alloc (.cells c _))) (Go.Proofs.YtdjeadgebcndeaaW.Aid.madeZeros n)
     obtain ⟨N, hN⟩ : ∃ N : Int, N = (n : Int) := ⟨_, rfl⟩
     have c1 : decide (N < 1) = false := decide_eq_false (by omega)
     have c2 : decide ((4096 : Int) < N) = false := decide_eq_false (by omega)
     have HO := Aside0.mk (new_ob w n hn hn2)
     have HB := Aside0.mk (below_alloc (below_alloc (Below.refl w.heap.size w) (.cells (List.replicate n (Value.int .u8 0)).toArray 5)) (.cells #[.int .i64 n, .int .i64 0, .slice (some ⟨w.heap.size, 0, none⟩) n n, .slice none 0 0, .int .i64 0, .bool false, .bool false] 45))
     rw [← hN] at hmk ⊢
     have HN := Aside0.mk hN
     clear hN hi0 hz0 hsz0 hby0 h hr h1 h2
     go_enter Try.func8, Try.ntmps8
     go_wp2
     go_ret2
     have e := HN.out
     subst e
     exact ⟨by simp, HB.out, HO.out⟩
    refine key.mono ?_
    rintro e w' ⟨rfl, hb, hn⟩
    exact ⟨_, _, _, _, _, rfl, hb, hn⟩
end Go.Proofs.Ytdjeadgebcndeaa.X
