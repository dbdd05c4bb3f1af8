/- Contracts of the laws' helpers on periods: the copy from the laws' type to the program's; the comparison of two. No condition. -/
import Derived.Test.YtmdmahgplmijcaaBase
namespace Go.Proofs.Ytmdmahgplmijcaa
open Go.RowKit

set_option maxHeartbeats 1000000 in
theorem eqPer_same (y o d u i s : Int) (w : World) : Calls Try.prog 8 #[.agg #[.int .i64 y, .int .i64 o, .int .i64 d, .int .i64 u, .int .i64 i, .int .i64 s], .agg #[.int .i64 y, .int .i64 o, .int .i64 d, .int .i64 u, .int .i64 i, .int .i64 s]] w fun e w' =>
    e = .returned (.bool true) ∧ Below w.heap.size w w' := by
  go_enter Try.func8, Try.ntmps8
  go_wp2
  go_ret
  exact ⟨rfl, by (repeat' (first | (with_reducible assumption) | (with_reducible exact Below.refl _ _) | (with_reducible refine bdN ?_ _) | (with_reducible refine Below.alloc ?_ ?_ _) | (with_reducible refine Below.drew ?_) | (with_reducible refine Below.setCell ?_ ?_ _) | go_size))⟩
end Go.Proofs.Ytmdmahgplmijcaa
