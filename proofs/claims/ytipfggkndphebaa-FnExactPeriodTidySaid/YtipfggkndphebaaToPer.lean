/- Contracts of the laws' helpers on periods: the copy from the laws' type to the program's; the comparison of two. No condition. -/
import Derived.Test.YtipfggkndphebaaBase
namespace Go.Proofs.Ytipfggkndphebaa
open Go.RowKit

set_option maxHeartbeats 1000000 in
theorem toPer_any (y o d u i s : Int) (w : World) : Calls Try.prog 12 #[.agg #[.int .i64 y, .int .i64 o, .int .i64 d, .int .i64 u, .int .i64 i, .int .i64 s]] w fun e w' =>
    e = .returned (.agg #[.int .i64 y, .int .i64 o, .int .i64 d, .int .i64 u, .int .i64 i, .int .i64 s]) ∧ Below w.heap.size w w' := by
  go_enter Try.func12, Try.ntmps12
  go_wp2
  exact bodyPost_ret (v := .agg #[.int .i64 y, .int .i64 o, .int .i64 d, .int .i64 u, .int .i64 i, .int .i64 s]) (by simp [results, Try.results12, go_sem]) rfl ⟨rfl, (((Below.refl _ _).alloc (Nat.le_refl _) _).alloc (by simp) _).alloc (by simp; omega) _⟩

set_option maxHeartbeats 1000000 in
theorem eqPer_same (y o d u i s : Int) (w : World) : Calls Try.prog 17 #[.agg #[.int .i64 y, .int .i64 o, .int .i64 d, .int .i64 u, .int .i64 i, .int .i64 s], .agg #[.int .i64 y, .int .i64 o, .int .i64 d, .int .i64 u, .int .i64 i, .int .i64 s]] w fun e w' =>
    e = .returned (.bool true) ∧ Below w.heap.size w w' := by
  go_enter Try.func17, Try.ntmps17
  go_wp2
  go_ret
  exact ⟨rfl, by go_grown⟩
end Go.Proofs.Ytipfggkndphebaa
