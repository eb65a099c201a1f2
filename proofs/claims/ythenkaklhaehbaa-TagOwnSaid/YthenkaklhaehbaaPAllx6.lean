-- written by wip/tools/mp.py, a program of this session, over the printer of the kit, out of the translation
import Derived.Test.YthenkaklhaehbaaPAllx0
namespace Go.Proofs.Ythenkaklhaehbaa.PAll
open Go.RowKit Go.Proofs.YthenkaklhaehbaaW.PrintWords Go.Proofs.YthenkaklhaehbaaW.PrintLast Go.Proofs.YthenkaklhaehbaaW.PrintMore
attribute [local go_sem] max2_int min2_int max_two min_two max_three min_three max_four min_four   -- for this text's walks alone
set_option linter.unusedVariables false
set_option linter.unusedSimpArgs false

/-! ### tag_mark: function 18 -/
def tag_mark.row (n : Int) : Nat → Array Value
  | 0 => #[.int .u8 0, .int .u8 0, .int .u8 0, .int .u8 0, .int .u8 0, .int .u8 0, .int .u8 0, .int .u8 0]
  | 1 => #[.int .u8 0, .int .u8 0, .int .u8 0, .int .u8 0, .int .u8 0, .int .u8 0, .int .u8 0, .int .u8 (n % 256)]
  | 2 => #[.int .u8 0, .int .u8 0, .int .u8 0, .int .u8 0, .int .u8 0, .int .u8 0, .int .u8 (n / 256 % 256), .int .u8 (n % 256)]
  | 3 => #[.int .u8 0, .int .u8 0, .int .u8 0, .int .u8 0, .int .u8 0, .int .u8 (n / 65536 % 256), .int .u8 (n / 256 % 256), .int .u8 (n % 256)]
  | 4 => #[.int .u8 0, .int .u8 0, .int .u8 0, .int .u8 0, .int .u8 (n / 16777216 % 256), .int .u8 (n / 65536 % 256), .int .u8 (n / 256 % 256), .int .u8 (n % 256)]
  | 5 => #[.int .u8 0, .int .u8 0, .int .u8 0, .int .u8 (n / 4294967296 % 256), .int .u8 (n / 16777216 % 256), .int .u8 (n / 65536 % 256), .int .u8 (n / 256 % 256), .int .u8 (n % 256)]
  | 6 => #[.int .u8 0, .int .u8 0, .int .u8 (n / 1099511627776 % 256), .int .u8 (n / 4294967296 % 256), .int .u8 (n / 16777216 % 256), .int .u8 (n / 65536 % 256), .int .u8 (n / 256 % 256), .int .u8 (n % 256)]
  | 7 => #[.int .u8 0, .int .u8 (n / 281474976710656 % 256), .int .u8 (n / 1099511627776 % 256), .int .u8 (n / 4294967296 % 256), .int .u8 (n / 16777216 % 256), .int .u8 (n / 65536 % 256), .int .u8 (n / 256 % 256), .int .u8 (n % 256)]
  | _ => #[.int .u8 (n / 72057594037927936 % 256), .int .u8 (n / 281474976710656 % 256), .int .u8 (n / 1099511627776 % 256), .int .u8 (n / 4294967296 % 256), .int .u8 (n / 16777216 % 256), .int .u8 (n / 65536 % 256), .int .u8 (n / 256 % 256), .int .u8 (n % 256)]
def tag_mark.f (n : Int) : List Int := [(n / 72057594037927936 % 256), (n / 281474976710656 % 256), (n / 1099511627776 % 256), (n / 4294967296 % 256), (n / 16777216 % 256), (n / 65536 % 256), (n / 256 % 256), (n % 256)]
set_option maxHeartbeats 4000000 in
theorem tag_mark.calls (n : Int) (w : World) : Calls Try.prog 18 #[.int .u64 n] w fun e w' => e = .returned (.agg (tag_mark.row n 8)) ∧ Below w.heap.size w w' := by
  go_enter Try.func18, Try.ntmps18
  go_wp2
  go_loopg [3, 4] 8 (fun kq v3 v4 w' => ∃ j : Nat, kq + j = 8 ∧ v4 = .int .i64 j ∧ w' = w.alloc (.cells (tag_mark.row n j) 38))
  case atStart => exact ⟨0, rfl, rfl, rfl⟩
  case round =>
    obtain ⟨j, hj, rfl, rfl⟩ := hrel
    match j, hj with
    | 0, hj =>
      obtain rfl : gk = 8 := by omega
      simp only [tag_mark.row]
      go_wp2
      go_roundg 7
      case measure => omega
      case rel => exact ⟨1, rfl, rfl, rfl⟩
    | 1, hj =>
      obtain rfl : gk = 7 := by omega
      simp only [tag_mark.row]
      go_wp2
      go_roundg 6
      case measure => omega
      case rel => exact ⟨2, rfl, rfl, rfl⟩
    | 2, hj =>
      obtain rfl : gk = 6 := by omega
      simp only [tag_mark.row]
      go_wp2
      go_roundg 5
      case measure => omega
      case rel => exact ⟨3, rfl, rfl, rfl⟩
    | 3, hj =>
      obtain rfl : gk = 5 := by omega
      simp only [tag_mark.row]
      go_wp2
      go_roundg 4
      case measure => omega
      case rel => exact ⟨4, rfl, rfl, rfl⟩
    | 4, hj =>
      obtain rfl : gk = 4 := by omega
      simp only [tag_mark.row]
      go_wp2
      go_roundg 3
      case measure => omega
      case rel => exact ⟨5, rfl, rfl, rfl⟩
    | 5, hj =>
      obtain rfl : gk = 3 := by omega
      simp only [tag_mark.row]
      go_wp2
      go_roundg 2
      case measure => omega
      case rel => exact ⟨6, rfl, rfl, rfl⟩
    | 6, hj =>
      obtain rfl : gk = 2 := by omega
      simp only [tag_mark.row]
      go_wp2
      go_roundg 1
      case measure => omega
      case rel => exact ⟨7, rfl, rfl, rfl⟩
    | 7, hj =>
      obtain rfl : gk = 1 := by omega
      simp only [tag_mark.row]
      go_wp2
      go_roundg 0
      case measure => omega
      case rel => exact ⟨8, rfl, rfl, rfl⟩
    | 8, hj =>
      simp only [tag_mark.row]
      go_wp2
      exact bodyPost_ret (v := .agg (tag_mark.row n 8)) (by simp [results, Try.results18, go_sem, tag_mark.row]) rfl ⟨rfl, Go.Proofs.YthenkaklhaehbaaW.Aid.below_new _ _⟩
    | j + 9, hj => omega

end Go.Proofs.Ythenkaklhaehbaa.PAll
