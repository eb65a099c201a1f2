import Derived.Shelf.SlSortCmp.WholeK
import Derived.Test.YtkchgcefmnbebaaProg
namespace Go.Proofs.Ytkchgcefmnbebaa.X
open Go Go.Shelf Go.RowKit Go.Lib Go.Sort
def sortPk_ren : Go.Shelf.Ren := ⟨fun | 6 => 47 | 15 => 51 | 14 => 50 | 28 => 60 | 29 => 61 | 20 => 52 | 21 => 53 | 22 => 54 | 23 => 55 | 24 => 56 | 25 => 57 | 26 => 58 | 27 => 59 | 46 => 62 | 47 => 63 | 48 => 64 | 49 => 65 | 50 => 66 | 57 => 67 | n => n, fun | 22 => 36 | 24 => 54 | 25 => 76 | 3 => 3 | 39 => 79 | 0 => 0 | 53 => 89 | 55 => 91 | 4 => 4 | 46 => 82 | 45 => 81 | 50 => 86 | 5 => 5 | 9 => 9 | 66 => 92 | 70 => 96 | 76 => 98 | 77 => 99 | n => n, fun | n => n⟩
theorem sortPk : Go.Proofs.SlLaysF0.n6 Try.prog sortPk_ren := {
 mixed := by kernel_rfl
 f6 := ⟨Try.f47.name, by decide, Try.func47.trans (congrArg some (by kernel_rfl))⟩
 f14 := ⟨Try.f50.name, by decide, Try.func50.trans (congrArg some (by kernel_rfl))⟩
 f15 := Try.func51.trans (congrArg some (by kernel_rfl))
 f20 := ⟨Try.f52.name, by decide, Try.func52.trans (congrArg some (by kernel_rfl))⟩
 f21 := ⟨Try.f53.name, by decide, Try.func53.trans (congrArg some (by kernel_rfl))⟩
 f22 := ⟨Try.f54.name, by decide, Try.func54.trans (congrArg some (by kernel_rfl))⟩
 f23 := ⟨Try.f55.name, by decide, Try.func55.trans (congrArg some (by kernel_rfl))⟩
 f24 := ⟨Try.f56.name, by decide, Try.func56.trans (congrArg some (by kernel_rfl))⟩
 f25 := ⟨Try.f57.name, by decide, Try.func57.trans (congrArg some (by kernel_rfl))⟩
 f26 := ⟨Try.f58.name, by decide, Try.func58.trans (congrArg some (by kernel_rfl))⟩
 f27 := ⟨Try.f59.name, by decide, Try.func59.trans (congrArg some (by kernel_rfl))⟩
 f28 := Try.func60.trans (congrArg some (by kernel_rfl))
 f29 := Try.func61.trans (congrArg some (by kernel_rfl))
 f46 := ⟨Try.f62.name, by decide, Try.func62.trans (congrArg some (by kernel_rfl))⟩
 f47 := Try.func63.trans (congrArg some (by kernel_rfl))
 f48 := Try.func64.trans (congrArg some (by kernel_rfl))
 f49 := ⟨Try.f65.name, by decide, Try.func65.trans (congrArg some (by kernel_rfl))⟩
 f50 := ⟨Try.f66.name, by decide, Try.func66.trans (congrArg some (by kernel_rfl))⟩
 f57 := ⟨Try.f67.name, by decide, Try.func67.trans (congrArg some (by kernel_rfl))⟩
 t0 := Try.underlying0
 a0 := Try.isAgg0
 z0 := Try.sizeOf0
 v0 := Try.zeroValue0
 t3 := Try.underlying3
 a3 := Try.isAgg3
 z3 := Try.sizeOf3
 v3 := Try.zeroValue3
 t4 := Try.underlying4
 a4 := Try.isAgg4
 z4 := Try.sizeOf4
 v4 := Try.zeroValue4
 t5 := Try.underlying5
 a5 := Try.isAgg5
 z5 := Try.sizeOf5
 v5 := Try.zeroValue5
 t9 := Try.underlying9
 a9 := Try.isAgg9
 z9 := Try.sizeOf9
 v9 := Try.zeroValue9
 t22 := Try.underlying36
 a22 := Try.isAgg36
 z22 := Try.sizeOf36
 v22 := Try.zeroValue36
 t25 := Try.underlying76
 a25 := Try.isAgg76
 z25 := Try.sizeOf76
 v25 := Try.zeroValue76
 t39 := Try.underlying79
 a39 := Try.isAgg79
 z39 := Try.sizeOf79
 v39 := Try.zeroValue79
 t45 := Try.underlying81
 a45 := Try.isAgg81
 z45 := Try.sizeOf81
 v45 := Try.zeroValue81
 t46 := Try.underlying82
 a46 := Try.isAgg82
 z46 := Try.sizeOf82
 v46 := Try.zeroValue82
 t50 := Try.underlying86
 a50 := Try.isAgg86
 z50 := Try.sizeOf86
 v50 := Try.zeroValue86
 t53 := Try.underlying89
 a53 := Try.isAgg89
 z53 := Try.sizeOf89
 v53 := Try.zeroValue89
 t55 := Try.underlying91
 a55 := Try.isAgg91
 z55 := Try.sizeOf91
 v55 := Try.zeroValue91
 t66 := Try.underlying92
 a66 := Try.isAgg92
 z66 := Try.sizeOf92
 v66 := Try.zeroValue92
 t70 := Try.underlying96
 a70 := Try.isAgg96
 z70 := Try.sizeOf96
 v70 := Try.zeroValue96
 t76 := Try.underlying98
 a76 := Try.isAgg98
 z76 := Try.sizeOf98
 v76 := Try.zeroValue98
 t77 := Try.underlying99
 a77 := Try.isAgg99
 z77 := Try.sizeOf99
 v77 := Try.zeroValue99 }
abbrev PkS : Type := { p : Int × Int × Int // 0 ≤ p.1 ∧ p.1 ≤ 4611686018427387903 }
instance : Inhabited PkS := ⟨⟨(0, 0, 0), by decide⟩⟩
def encK (x : PkS) : List Value := [.int .i64 x.1.1, .int .i64 x.1.2.1, .int .i64 x.1.2.2]
def cmpK (x y : PkS) : Int := x.1.1 - y.1.1
theorem cmpK_lt (x y : PkS) : ltOf cmpK x y = decide (x.1.1 < y.1.1) := by
 unfold ltOf cmpK
 exact decide_eq_decide.2 (by omega)
theorem cmpK_swo : SWO (ltOf cmpK) where
 irrefl x := by rw [cmpK_lt]; simp
 trans x y z h1 h2 := by rw [cmpK_lt] at *; simp at *; omega
 ntrans x y z h1 h2 := by rw [cmpK_lt] at *; simp at *; omega
theorem cmpK_run (x y : PkS) (W : World) : Calls Try.prog 48 #[.agg (encK x).toArray, .agg (encK y).toArray] W fun e w' => e = .returned (.int .i64 (cmpK x y)) ∧ ∃ q os', w' = grow (W.drewN q) os' := by
 have hw : IntKind.i64.wrap (x.1.1 - y.1.1) = cmpK x y := by
  have := x.2; have := y.2
  unfold cmpK IntKind.wrap
  simp [IntKind.bits, IntKind.signed]
  omega
 unfold encK
 generalize cmpK x y = r at hw
 go_enter Try.func48, Try.ntmps48
 go_wp2
 go_ret
 exact ⟨rfl, 0, _, by rw [alloc_eq_grow, alloc_eq_grow, grow_grow]; rfl⟩
theorem cmpK_lays (blk off size : Nat) (w : World) : CmpLays Try.prog 48 #[] encK 3 cmpK blk off size w := fun _ _ _ _ x y => cmpK_run x y _
end Go.Proofs.Ytkchgcefmnbebaa.X
