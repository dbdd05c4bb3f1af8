/- Contracts of the laws' helpers on periods: the copy from the laws' type to the program's; the comparison of two. No condition. -/
import Derived.Test.YtmdmahgplmijcaaDoorBase
namespace Go.Proofs.YtmdmahgplmijcaaDoor
open Go.RowKit

set_option maxHeartbeats 1000000 in
theorem toPer_any (y o d u i s : Int) (w : World) : Calls Tryd.prog 14 #[.agg #[.int .i64 y, .int .i64 o, .int .i64 d, .int .i64 u, .int .i64 i, .int .i64 s]] w fun e w' =>
    e = .returned (.agg #[.int .i64 y, .int .i64 o, .int .i64 d, .int .i64 u, .int .i64 i, .int .i64 s]) ∧ Below w.heap.size w w' := by
  go_enter Tryd.func14, Tryd.ntmps14
  go_wp2
  exact bodyPost_ret (v := .agg #[.int .i64 y, .int .i64 o, .int .i64 d, .int .i64 u, .int .i64 i, .int .i64 s]) (by simp [results, Tryd.results14, go_sem]) rfl ⟨rfl, (((Below.refl _ _).alloc (Nat.le_refl _) _).alloc (by simp) _).alloc (by simp; omega) _⟩

end Go.Proofs.YtmdmahgplmijcaaDoor
